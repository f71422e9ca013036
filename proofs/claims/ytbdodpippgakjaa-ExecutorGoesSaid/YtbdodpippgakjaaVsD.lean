/- This text proves a part of what the claim needs: contracts of functions of the program. No condition. -/
import Derived.Test.YtbdodpippgakjaaVsC
set_option linter.unusedSimpArgs false
set_option linter.unusedVariables false

/- More weakenings: a nil slice in a cell is a slice without elements. -/
namespace Go.Vs

/-- Cells of a block up to nil slices. -/
theorem Wk.boxLe {n0 nx b : Nat} {tm : Tm} {hp : Hp} {cs cs' : List C} (hb : look hp b = some (.box cs)) (hle : CsLe cs cs') :
    Wk n0 ⟨tm, hp, nx⟩ ⟨tm, setL hp b (.box cs'), nx⟩ := fun hn => ⟨hn, fun CM γ a w hs => by
  have hlen := hle.get.1
  have hpe : look (setL hp b (.box cs')) = upd (look hp) b (.box cs') := look_setL _ _ _
  have hpb : look (setL hp b (.box cs')) b = some (.box cs') := by rw [hpe, upd_same]
  have hpo : ∀ i, i ≠ b → look (setL hp b (.box cs')) i = look hp i := fun i h => by rw [hpe, upd_other _ _ h]
  have hfr : Fr ((St.mk tm hp nx).cx w γ CM) ((St.mk tm (setL hp b (.box cs')) nx).cx w γ CM) :=
    { os := rfl
      tape := rfl
      output := rfl
      size := Nat.le_refl _
      same := fun _ _ _ => rfl
      muts := fun c _ ⟨i, blk, g1, g2, g3⟩ => by
        have g1 : look (setL hp b (.box cs')) i = some blk := g1
        by_cases hib : i = b
        · exact ⟨b, _, hb, rfl, hib ▸ g3⟩
        · rw [hpo i hib] at g1
          exact ⟨i, blk, g1, g2, g3⟩
      sz := fun c arr e fr h => ⟨arr, h, rfl⟩
      orig := fun c arr e fr h => .inr ⟨arr, h⟩
      cm := rfl }
  have hev : Ev (fun i => i < nx) ((St.mk tm hp nx).cx w γ CM) ((St.mk tm (setL hp b (.box cs')) nx).cx w γ CM) :=
    ⟨fun i hi => hi, fun i hi => by
      by_cases hib : i = b
      · subst hib
        unfold EvB
        rw [show ((St.mk tm hp nx).cx w γ CM).hp i = some (.box cs) from hb]
        exact .inr ⟨_, hpb, hlen.symm, rfl⟩
      · exact EvB.same (hpo i hib) rfl⟩
  refine ⟨γ, { hp := fun i blk hi => ?_, inj := hs.inj, lt := hs.lt, cm := hs.cm, tm := fun t => (hs.tm t).on hfr hev, defers := hs.defers }, hfr, hev.sub fun i hi => Nat.lt_of_lt_of_le hi hn⟩
  have hi : look (setL hp b (.box cs')) i = some blk := hi
  by_cases hib : i = b
  · subst hib
    rw [hpb] at hi
    cases hi
    obtain ⟨h1, c, arr, e, h2, h3, h4, h5⟩ := hs.hp i _ hb
    refine ⟨h1, c, arr, e, h2, h3, h4.trans hlen, fun k y hk => ?_⟩
    obtain ⟨x, hx, hxy⟩ := hle.get.2 k y hk
    exact hxy.on ((h5 k x hx).on hfr hev)
  · rw [hpo i hib] at hi
    have := hs.hp i blk hi
    exact ⟨this.1, this.2.on hfr hev rfl fun _ _ => rfl⟩⟩

/-- Elements of a block up to nil slices. -/
theorem Wk.blkLe {n0 nx b esz : Nat} {tm : Tm} {hp : Hp} {es es' : List (List D)} {fz : Bool} (hb : look hp b = some (.sl esz es fz)) (hle : ElsLe es es') :
    Wk n0 ⟨tm, hp, nx⟩ ⟨tm, setL hp b (.sl esz es' fz), nx⟩ := fun hn => ⟨hn, fun CM γ a w hs => by
  obtain ⟨hlen, hrow⟩ := hle.get
  have hpe : look (setL hp b (.sl esz es' fz)) = upd (look hp) b (.sl esz es' fz) := look_setL _ _ _
  have hpb : look (setL hp b (.sl esz es' fz)) b = some (.sl esz es' fz) := by rw [hpe, upd_same]
  have hpo : ∀ i, i ≠ b → look (setL hp b (.sl esz es' fz)) i = look hp i := fun i h => by rw [hpe, upd_other _ _ h]
  have hfr : Fr ((St.mk tm hp nx).cx w γ CM) ((St.mk tm (setL hp b (.sl esz es' fz)) nx).cx w γ CM) :=
    { os := rfl
      tape := rfl
      output := rfl
      size := Nat.le_refl _
      same := fun _ _ _ => rfl
      muts := fun c _ ⟨i, blk, g1, g2, g3⟩ => by
        have g1 : look (setL hp b (.sl esz es' fz)) i = some blk := g1
        by_cases hib : i = b
        · subst hib
          rw [hpb] at g1
          cases g1
          exact ⟨i, _, hb, g2, g3⟩
        · rw [hpo i hib] at g1
          exact ⟨i, blk, g1, g2, g3⟩
      sz := fun c arr e fr h => ⟨arr, h, rfl⟩
      orig := fun c arr e fr h => .inr ⟨arr, h⟩
      cm := rfl }
  have hev : Ev (fun i => i < nx) ((St.mk tm hp nx).cx w γ CM) ((St.mk tm (setL hp b (.sl esz es' fz)) nx).cx w γ CM) :=
    ⟨fun i hi => hi, fun i hi => by
      by_cases hib : i = b
      · subst hib
        unfold EvB
        rw [show ((St.mk tm hp nx).cx w γ CM).hp i = some (.sl esz es fz) from hb]
        exact .inr ⟨_, _, hpb, .inl ⟨hlen.symm, rfl⟩⟩
      · exact EvB.same (hpo i hib) rfl⟩
  refine ⟨γ, { hp := fun i blk hi => ?_, inj := hs.inj, lt := hs.lt, cm := hs.cm, tm := fun t => (hs.tm t).on hfr hev, defers := hs.defers }, hfr, hev.sub fun i hi => Nat.lt_of_lt_of_le hi hn⟩
  have hi : look (setL hp b (.sl esz es' fz)) i = some blk := hi
  by_cases hib : i = b
  · subst hib
    rw [hpb] at hi
    cases hi
    obtain ⟨h1, h2, h3⟩ := hs.hp i _ hb
    have get : ∀ j b, es'[j]? = some b → ∃ a, es[j]? = some a := fun j b hb => by
      have := (List.getElem?_eq_some_iff.1 hb).1
      exact ⟨es[j], List.getElem?_eq_getElem (by omega)⟩
    refine ⟨h1, fun cs hcs => ?_, ?_⟩
    · obtain ⟨j, hj⟩ := List.getElem?_of_mem hcs
      obtain ⟨a, ha⟩ := get j cs hj
      rw [← (hrow j a cs ha hj).get.1]
      exact h2 a (List.mem_of_getElem? ha)
    · rcases h3 with ⟨g1, g2⟩ | ⟨c, arr, e, g1, g2, g3, g4⟩
      · subst g2
        exact .inl ⟨g1, List.eq_nil_of_length_eq_zero hlen.symm⟩
      · refine .inr ⟨c, arr, e, g1, g2, by rw [← hlen]; exact g3, fun j cs k y hj hk => ?_⟩
        obtain ⟨a, ha⟩ := get j cs hj
        obtain ⟨q1, q2⟩ := (hrow j a cs ha hj).get
        have hk' := (List.getElem?_eq_some_iff.1 hk).1
        have hx : a[k]? = some a[k] := List.getElem?_eq_getElem (by omega)
        exact ((q2 k _ y hx hk).on (g4 j a k _ ha hx)).on hfr
  · rw [hpo i hib] at hi
    have := hs.hp i blk hi
    exact ⟨this.1, this.2.on hfr hev rfl fun _ _ => rfl⟩⟩

end Go.Vs

/- More weakenings: a slice of the call's own that is never written again is data. -/
namespace Go.Vs

/-- Cells of a block, read in another way. -/
theorem Wk.boxOn {n0 nx b : Nat} {tm : Tm} {hp : Hp} {cs cs' : List C} (hb : look hp b = some (.box cs)) (hlen : cs.length = cs'.length)
    (hle : ∀ (CM : Nat → Prop) (γ : Gam) (w : World), HRel ((St.mk tm hp nx).cx w γ CM) → ∀ (k : Nat) (y : C), cs'[k]? = some y → ∃ x, cs[k]? = some x ∧
      ∀ v, CRel ((St.mk tm hp nx).cx w γ CM) v x → CRel ((St.mk tm hp nx).cx w γ CM) v y) :
    Wk n0 ⟨tm, hp, nx⟩ ⟨tm, setL hp b (.box cs'), nx⟩ := fun hn => ⟨hn, fun CM γ a w hs => by
  have hpe : look (setL hp b (.box cs')) = upd (look hp) b (.box cs') := look_setL _ _ _
  have hpb : look (setL hp b (.box cs')) b = some (.box cs') := by rw [hpe, upd_same]
  have hpo : ∀ i, i ≠ b → look (setL hp b (.box cs')) i = look hp i := fun i h => by rw [hpe, upd_other _ _ h]
  have hfr : Fr ((St.mk tm hp nx).cx w γ CM) ((St.mk tm (setL hp b (.box cs')) nx).cx w γ CM) :=
    { os := rfl
      tape := rfl
      output := rfl
      size := Nat.le_refl _
      same := fun _ _ _ => rfl
      muts := fun c _ ⟨i, blk, g1, g2, g3⟩ => by
        have g1 : look (setL hp b (.box cs')) i = some blk := g1
        by_cases hib : i = b
        · exact ⟨b, _, hb, rfl, hib ▸ g3⟩
        · rw [hpo i hib] at g1
          exact ⟨i, blk, g1, g2, g3⟩
      sz := fun c arr e fr h => ⟨arr, h, rfl⟩
      orig := fun c arr e fr h => .inr ⟨arr, h⟩
      cm := rfl }
  have hev : Ev (fun i => i < nx) ((St.mk tm hp nx).cx w γ CM) ((St.mk tm (setL hp b (.box cs')) nx).cx w γ CM) :=
    ⟨fun i hi => hi, fun i hi => by
      by_cases hib : i = b
      · subst hib
        unfold EvB
        rw [show ((St.mk tm hp nx).cx w γ CM).hp i = some (.box cs) from hb]
        exact .inr ⟨_, hpb, hlen.symm, rfl⟩
      · exact EvB.same (hpo i hib) rfl⟩
  refine ⟨γ, { hp := fun i blk hi => ?_, inj := hs.inj, lt := hs.lt, cm := hs.cm, tm := fun t => (hs.tm t).on hfr hev, defers := hs.defers }, hfr, hev.sub fun i hi => Nat.lt_of_lt_of_le hi hn⟩
  have hi : look (setL hp b (.box cs')) i = some blk := hi
  by_cases hib : i = b
  · subst hib
    rw [hpb] at hi
    cases hi
    obtain ⟨h1, c, arr, e, h2, h3, h4, h5⟩ := hs.hp i _ hb
    refine ⟨h1, c, arr, e, h2, h3, h4.trans hlen, fun k y hk => ?_⟩
    obtain ⟨x, hx, hxy⟩ := hle CM γ w hs.toHRel k y hk
    exact (hxy _ (h5 k x hx)).on hfr hev
  · rw [hpo i hib] at hi
    have := hs.hp i blk hi
    exact ⟨this.1, this.2.on hfr hev rfl fun _ _ => rfl⟩⟩


/-- A block is never written again. -/
theorem Wk.frz {n0 nx b esz : Nat} {tm : Tm} {hp : Hp} {es : List (List D)} {fz : Bool} (hb : look hp b = some (.sl esz es fz)) :
    Wk n0 ⟨tm, hp, nx⟩ ⟨tm, setL hp b (.sl esz es true), nx⟩ := fun hn => ⟨hn, fun CM γ a w hs => by
  obtain ⟨g1, g2, g3⟩ := frz_rel [.c (.ref b 0 0 0)] hs
  have e : frzVs hp [.c (.ref b 0 0 0)] = setL hp b (.sl esz es true) := by simp [frzVs, frzV, hb]
  rw [e] at g1 g2 g3
  exact ⟨γ, g1, g2, g3.sub fun i hi => Nat.lt_of_lt_of_le hi hn⟩⟩

theorem ref_data {x : Cx} {v : Value} {b g off n esz : Nat} {es : List (List D)} (hh : HRel x) (hb : x.hp b = some (.sl esz es true)) (hl : es.length = g) (hon : off + n ≤ g)
    (hv : CRel x v (.ref b g off n)) : CRel x v (.d (.sl esz ((es.drop off).take n))) := by
  refine .d _ _ ?_
  cases hv with
  | refNil _ _ _ hb2 _ =>
    rw [hb] at hb2
    cases hb2
    simp
    exact .slNil _
  | ref _ c _ _ cap esz' es' fz' arr e fr hb2 hg hw h1 h2 h3 hu =>
    rw [hb] at hb2
    cases hb2
    exact sl_part (hh.hp b _ hb).2 hg h1 h2 (fz_ok hh hb hg) fun _ h => h
  | refOld _ _ _ _ _ _ _ h =>
    rcases h with h | ⟨_, _, _, h, hl2⟩
    · rw [hb] at h; simp at h
    · rw [hb] at h; cases h; omega

/-- A cell that leads to a frozen block is data. -/
theorem Wk.cellData {n0 nx b b' esz g off n : Nat} {tm : Tm} {hp : Hp} {cs : List C} {es : List (List D)} (j : Nat) (hb : look hp b = some (.box cs)) (hj : cs[j]? = some (.ref b' g off n))
    (hb' : look hp b' = some (.sl esz es true)) (hl : es.length = g) (hon : off + n ≤ g) :
    Wk n0 ⟨tm, hp, nx⟩ ⟨tm, setL hp b (.box (cs.set j (.d (.sl esz ((es.drop off).take n))))), nx⟩ :=
  Wk.boxOn hb (by simp) fun CM γ w hh k y hk => by
    rw [List.getElem?_set] at hk
    split at hk
    · rename_i e
      subst e
      split at hk
      · cases hk
        exact ⟨_, hj, fun v hv => ref_data hh hb' hl hon hv⟩
      · simp at hk
    · exact ⟨y, hk, fun v hv => hv⟩

/-- A slot that leads to a frozen block is data. -/
theorem Wk.slotData {n0 nx t b' esz g off n : Nat} {tm : Tm} {hp : Hp} {es : List (List D)} (ht : getV tm t = .c (.ref b' g off n))
    (hb' : look hp b' = some (.sl esz es true)) (hl : es.length = g) (hon : off + n ≤ g) :
    Wk n0 ⟨tm, hp, nx⟩ ⟨setL tm t (.c (.d (.sl esz ((es.drop off).take n)))), hp, nx⟩ := fun hn => ⟨hn, fun CM γ a w hs => by
  refine ⟨γ, { hs.toHRel with tm := fun i => ?_, defers := hs.defers }, Fr.refl _, (Ev.refl fun _ h => h).sub fun i hi => Nat.lt_of_lt_of_le hi hn⟩
  show VRel _ _ (getV (setL tm t _) i)
  rw [getV_setL]
  by_cases hi : i = t
  · subst hi
    simp only [if_true]
    have := hs.tm i
    rw [show getV tm i = _ from ht] at this
    exact .c _ _ (ref_data hs.toHRel hb' hl hon this.c_inv)
  · dsimp only
    rw [if_neg hi]
    exact hs.tm i⟩
end Go.Vs

/- Sequences without a computed condition; a box that is never written again is data. -/
namespace Go.Vs

def delL {α : Type} : List (Nat × α) → Nat → List (Nat × α)
  | [], _ => []
  | (k, v) :: s, j => if k = j then delL s j else (k, v) :: delL s j
theorem look_delL {α : Type} : ∀ (s : List (Nat × α)) (j i : Nat), look (delL s j) i = if i = j then none else look s i
  | [], j, i => by simp [delL, look]
  | (k, v) :: s, j, i => by
    have ih := look_delL s j i
    simp only [delL]
    split
    · rename_i h
      rw [ih]
      by_cases hi : i = j
      · simp [hi]
      · have : ¬ k = i := fun e => hi (by omega)
        simp [look, hi, this]
    · rename_i h
      simp only [look]
      by_cases hk : k = i
      · have : ¬ i = j := fun e => h (by omega)
        simp [hk, this]
      · simp only [hk, if_false]
        exact ih
attribute [go_sem] delL

/-- The world is the same; a block is forgotten. -/
theorem Wk.boxData {n0 nx t b off : Nat} {tm : Tm} {hp : Hp} {ds : List D} (ht : getV tm t = .c (.ptr b off)) (hb : look hp b = some (.box (ds.map .d))) (hoff : off ≤ ds.length) :
    Wk n0 ⟨tm, hp, nx⟩ ⟨setL tm t (.c (.d (.fp (ds.drop off)))), delL hp b, nx⟩ := fun hn => ⟨hn, fun CM γ a w hs => by
  have hlook : ∀ i blk, look (delL hp b) i = some blk → look hp i = some blk ∧ i ≠ b := fun i blk h => by
    rw [look_delL] at h
    split at h
    · simp at h
    · exact ⟨h, by assumption⟩
  have hfr : Fr ((St.mk tm hp nx).cx w γ CM) ((St.mk (setL tm t (.c (.d (.fp (ds.drop off))))) (delL hp b) nx).cx w γ CM) :=
    { os := rfl
      tape := rfl
      output := rfl
      size := Nat.le_refl _
      same := fun _ _ _ => rfl
      muts := fun c _ ⟨i, blk, g1, g2, g3⟩ => ⟨i, blk, (hlook i blk g1).1, g2, g3⟩
      sz := fun c arr e fr h => ⟨arr, h, rfl⟩
      orig := fun c arr e fr h => .inr ⟨arr, h⟩
      cm := rfl }
  have hev : Ev (fun b => b < nx) ((St.mk tm hp nx).cx w γ CM) ((St.mk (setL tm t (.c (.d (.fp (ds.drop off))))) (delL hp b) nx).cx w γ CM) := ⟨fun _ h => h, fun i _ => by
    have e : look (delL hp b) i = if i = b then none else look hp i := look_delL hp b i
    by_cases hi : i = b
    · rw [if_pos hi] at e
      unfold EvB
      split
      · exact e
      · exact .inl e
      · exact .inl e
      · exact .inl e
    · rw [if_neg hi] at e
      exact EvB.same e rfl⟩
  refine ⟨γ, { hp := fun i blk hi => ?_, inj := hs.inj, lt := hs.lt, cm := hs.cm, tm := fun j => ?_, defers := hs.defers }, hfr, hev.sub fun b hb => Nat.lt_of_lt_of_le hb hn⟩
  · have hi : look (delL hp b) i = some blk := hi
    obtain ⟨g1, g2⟩ := hs.hp i blk (hlook i blk hi).1
    exact ⟨g1, g2.on hfr hev rfl fun _ _ => rfl⟩
  · show VRel _ _ (getV (setL tm t (.c (.d (.fp (ds.drop off))))) j)
    rw [getV_setL]
    by_cases hj : j = t
    · subst hj
      simp only [if_true]
      have := hs.tm j
      rw [show getV tm j = _ from ht] at this
      have hc := this.c_inv
      have hb0 : ((St.mk tm hp nx).cx w γ CM).hp b = some (.box (ds.map .d)) := hb
      refine .c _ _ (.d _ _ ?_)
      generalize a.tmps.getD j undef = v at hc
      cases hc with
      | ptrOld _ _ _ _ _ h => rw [hb0] at h; simp at h
      | ptr _ c _ cs h hg hu =>
        obtain ⟨_, c', arr, e, g1, g2, g3, g4⟩ := hs.hp b _ hb0
        rw [hg] at g1
        cases g1
        have hnm : ¬ Mut γ (look (delL hp b)) c := fun ⟨i, blk, k1, k2, k3⟩ => (hlook i blk k1).2 (hs.inj i b c k3 hg)
        refine .fp c off (ds.drop off) arr e (0, 0) ⟨(hs.lt b c hg).2, hnm⟩ g2 ?_ fun k y hk => ?_
        · have g3 : arr.size = (ds.map C.d).length := g3
          simp at g3 ⊢
          omega
        · have hk' : ds[off + k]? = some y := by simpa [List.getElem?_drop] using hk
          have hd := g4 (off + k) (.d y) (by simp [hk'])
          exact DRel.on hfr hd.d_inv
    · dsimp only
      rw [if_neg hj]
      exact (hs.tm j).on hfr hev⟩

/-- A map that is never written again is data. -/
theorem Wk.mapData {n0 nx t b : Nat} {tm : Tm} {hp : Hp} {es : List (D × D)} (ht : getV tm t = .c (.mref b)) (hb : look hp b = some (.mp es)) :
    Wk n0 ⟨tm, hp, nx⟩ ⟨setL tm t (.c (.d (.mp es))), delL hp b, nx⟩ := fun hn => ⟨hn, fun CM γ a w hs => by
  have hlook : ∀ i blk, look (delL hp b) i = some blk → look hp i = some blk ∧ i ≠ b := fun i blk h => by
    rw [look_delL] at h
    split at h
    · simp at h
    · exact ⟨h, by assumption⟩
  have hfr : Fr ((St.mk tm hp nx).cx w γ CM) ((St.mk (setL tm t (.c (.d (.mp es)))) (delL hp b) nx).cx w γ CM) :=
    { os := rfl
      tape := rfl
      output := rfl
      size := Nat.le_refl _
      same := fun _ _ _ => rfl
      muts := fun c _ ⟨i, blk, g1, g2, g3⟩ => ⟨i, blk, (hlook i blk g1).1, g2, g3⟩
      sz := fun c arr e fr h => ⟨arr, h, rfl⟩
      orig := fun c arr e fr h => .inr ⟨arr, h⟩
      cm := rfl }
  have hev : Ev (fun b => b < nx) ((St.mk tm hp nx).cx w γ CM) ((St.mk (setL tm t (.c (.d (.mp es)))) (delL hp b) nx).cx w γ CM) := ⟨fun _ h => h, fun i _ => by
    have e : look (delL hp b) i = if i = b then none else look hp i := look_delL hp b i
    by_cases hi : i = b
    · rw [if_pos hi] at e
      unfold EvB
      split
      · exact e
      · exact .inl e
      · exact .inl e
      · exact .inl e
    · rw [if_neg hi] at e
      exact EvB.same e rfl⟩
  refine ⟨γ, { hp := fun i blk hi => ?_, inj := hs.inj, lt := hs.lt, cm := hs.cm, tm := fun j => ?_, defers := hs.defers }, hfr, hev.sub fun b hb => Nat.lt_of_lt_of_le hb hn⟩
  · have hi : look (delL hp b) i = some blk := hi
    obtain ⟨g1, g2⟩ := hs.hp i blk (hlook i blk hi).1
    exact ⟨g1, g2.on hfr hev rfl fun _ _ => rfl⟩
  · show VRel _ _ (getV (setL tm t (.c (.d (.mp es)))) j)
    rw [getV_setL]
    by_cases hj : j = t
    · subst hj
      simp only [if_true]
      have := hs.tm j
      rw [show getV tm j = _ from ht] at this
      have hc := this.c_inv
      have hb0 : ((St.mk tm hp nx).cx w γ CM).hp b = some (.mp es) := hb
      refine .c _ _ (.d _ _ ?_)
      generalize a.tmps.getD j undef = v at hc
      cases hc with
      | mrefOld _ _ _ _ h => rw [hb0] at h; simp at h
      | mref _ c es' h hg hu =>
        obtain ⟨_, c', ents, clk, g1, g2, g3, g4, g5⟩ := hs.hp b _ hb0
        rw [hg] at g1
        cases g1
        have hnm : ¬ Mut γ (look (delL hp b)) c := fun ⟨i, blk, k1, k2, k3⟩ => (hlook i blk k1).2 (hs.inj i b c k3 hg)
        exact .mp c ents clk es ⟨(hs.lt b c hg).2, hnm⟩ g2 g3 (fun k y hk => DRel.on hfr (g4 k y hk)) fun k y hk => DRel.on hfr (g5 k y hk)
    · dsimp only
      rw [if_neg hj]
      exact (hs.tm j).on hfr hev⟩

section
variable {P : Program} {tv : Tv} {N n0 : Nat} {σ : St} {Q : Kn (Exit → St → Prop)}
theorem wT_seq {a b : LC} (h : wT P N n0 (L := ⟨a⟩) σ (Q := ⟨thenT P N n0 b Q.go⟩)) : wT P N n0 (L := ⟨.seq a b⟩) σ (Q := Q) := by
  unfold wT at *
  exact T.seq h
@[go_sem] theorem wQ_thenT {b : LC} {q : Exit → St → Prop} : wQ .normal σ (Q := ⟨thenT P N n0 b q⟩) = wT P N n0 (L := ⟨b⟩) σ (Q := ⟨q⟩) := by
  unfold wT wQ
  rfl
@[go_sem] theorem wQ_thenT_ret {b : LC} {q : Exit → St → Prop} : wQ .ret σ (Q := ⟨thenT P N n0 b q⟩) = wQ .ret σ (Q := ⟨q⟩) := by
  unfold wQ
  rfl
@[go_sem] theorem wQ_thenT_exit {b : LC} {q : Exit → St → Prop} {id : Nat} : wQ (.exit id) σ (Q := ⟨thenT P N n0 b q⟩) = wQ (.exit id) σ (Q := ⟨q⟩) := by
  unfold wQ
  rfl
/-- A contract from the logic, without a computed condition at its opening. -/
theorem Gives.of_wT {P : Program} {tv : Tv} (env : Env P tv) {f : Nat} {fn : Func} {L : LC} (hf : P.funcs[f]? = some fn) (hn : (fn.name == "runtime.NumGoroutine") = false)
    (hl : fn.body.bind (light fn.ntmps) = some L) {n : Nat} (hnt : fn.ntmps = n) {rs : List ResultVar} (hrs : fn.results.toList = rs) {args : List PV} (hlen : args.length ≤ n) (own : List Nat) {res : V} {blks : List Blk} (hnd : own.Nodup)
    (h : wT P n 0 (L := ⟨L⟩) ⟨argTm 0 args, [], 0⟩ (Q := ⟨retT P tv own rs res blks⟩)) : Gives P f args res blks := by
  subst hnt hrs
  obtain ⟨code, hb, hl⟩ := Option.bind_eq_some_iff.1 hl
  unfold wT at h
  exact Gives.of_T env hf hn hb hl hlen own hnd h
end

theorem nilRef_ctx {CM : Nat → Prop} {w : World} {γ : Gam} {w' : World} {v : Value} {res : V} (esz : Nat) (hp : PostC CM w γ [] w' v res) :
    Fr ⟨w', γ, fun j => ([] : List Blk)[j]?, CM, fun b => b < 0⟩ ⟨w', γ, fun j => [Blk.sl esz [] false][j]?, CM, fun b => b < 1⟩ ∧
    HRel ⟨w', γ, fun j => [Blk.sl esz [] false][j]?, CM, fun b => b < 1⟩ ∧ Fr (Cx.start w CM) ⟨w', γ, fun j => [Blk.sl esz [] false][j]?, CM, fun b => b < 1⟩ ∧ ∀ b c, γ b ≠ some c := by
  have hγ : ∀ b c, γ b ≠ some c := fun b c h => by have := hp.dom b c h; simp at this
  have hf : Fr ⟨w', γ, fun j => ([] : List Blk)[j]?, CM, fun b => b < 0⟩ ⟨w', γ, fun j => [Blk.sl esz [] false][j]?, CM, fun b => b < 1⟩ :=
    { os := rfl
      tape := rfl
      output := rfl
      size := Nat.le_refl _
      same := fun _ _ _ => rfl
      muts := fun c _ ⟨b, blk, g1, g2, g3⟩ => absurd g3 (hγ b c)
      sz := fun c arr e fr h => ⟨arr, h, rfl⟩
      orig := fun c arr e fr h => .inr ⟨arr, h⟩
      cm := rfl }
  refine ⟨hf, { hp := fun b blk hb => ?_, inj := fun b b' c h => absurd h (hγ b c), lt := fun b c h => absurd h (hγ b c), cm := hp.h.cm }, hp.fr.trans hf, hγ⟩
  have hb : [Blk.sl esz [] false][b]? = some blk := hb
  cases b with
  | zero =>
    simp at hb
    subst hb
    refine ⟨Nat.zero_lt_one, fun cs h => by simp at h, .inl ⟨?_, rfl⟩⟩
    cases h : γ 0 with
    | none => exact h
    | some c => exact absurd h (hγ 0 c)
  | succ b => simp at hb

/-- A nil slice that is returned stands for one of the caller's own, without elements. -/
theorem Gives.nilRef {P : Program} {f : Nat} {ps : List PV} (esz : Nat) (h : Gives P f ps (.c (.d .nilSl)) []) : Gives P f ps (.c (.ref 0 0 0 0)) [.sl esz [] false] := by
  obtain ⟨fn, hf, hn, hb, h⟩ := h
  refine ⟨fn, hf, hn, hb, fun CM w vs hCM hps => (h CM w vs hCM hps).mono ?_⟩
  rintro en w' ⟨v, γ, rfl, hp⟩
  obtain ⟨k1, k2, k3, k4⟩ := nilRef_ctx esz hp
  refine ⟨v, γ, rfl, { h := k2, v := ?_, fr := k3, new := hp.new, dom := fun b c h => absurd h (k4 b c) }⟩
  have := hp.v.nilSl_inv
  subst this
  exact .c _ _ (.refNil 0 esz false rfl Nat.zero_lt_one)

/-- The same of a cell. -/
theorem Gives.nilRefAgg {P : Program} {f : Nat} {ps : List PV} {cs : List C} (esz j : Nat) (hj : cs[j]? = some (.d .nilSl)) (h : Gives P f ps (.agg cs) []) :
    Gives P f ps (.agg (cs.set j (.ref 0 0 0 0))) [.sl esz [] false] := by
  obtain ⟨fn, hf, hn, hb, h⟩ := h
  refine ⟨fn, hf, hn, hb, fun CM w vs hCM hps => (h CM w vs hCM hps).mono ?_⟩
  rintro en w' ⟨v, γ, rfl, hp⟩
  obtain ⟨k1, k2, k3, k4⟩ := nilRef_ctx esz hp
  refine ⟨v, γ, rfl, { h := k2, v := ?_, fr := k3, new := hp.new, dom := fun b c h => absurd h (k4 b c) }⟩
  have hv := hp.v
  cases hv with
  | agg arr _ hsz hr =>
    refine .agg arr _ (by simpa using hsz) fun k y hk => ?_
    rw [List.getElem?_set] at hk
    split at hk
    · rename_i e
      subst e
      split at hk
      · cases hk
        have := (VRel.c _ _ (hr j _ hj)).nilSl_inv
        rw [this]
        exact .refNil 0 esz false rfl Nat.zero_lt_one
      · simp at hk
    · exact (hr k y hk).on k1 ⟨fun b hb => by have hb : b < 0 := hb; omega, fun b hb => by have hb : b < 0 := hb; omega⟩
end Go.Vs

/- The walk's rules that the library itself has. -/
namespace Go.Vs
attribute [go_sem] List.length_cons List.length_nil List.map_cons List.map_nil List.reverse_cons List.reverse_nil List.nil_append List.cons_append Bool.false_eq_true Nat.zero_le List.flatten_nil List.flatten_cons true_and and_true and_self List.append_nil Nat.zero_add Nat.add_zero List.contains_nil Nat.le_refl List.take_zero List.take_succ_cons List.drop_zero List.drop_succ_cons List.take_length List.take_nil List.drop_nil Option.map_some Option.map_none List.getElem?_cons_zero List.getElem?_cons_succ List.getElem?_nil Option.some.injEq Int.toNat_zero decide_true decide_false Bool.not_true Bool.not_false beq_self_eq_true List.mapM_cons List.mapM_nil wrap64 wrap8 Int.cast_ofNat_Int Int.natCast_eq_zero decide_eq_true_eq Bool.or_false Bool.or_true Bool.or_self Bool.false_or Bool.true_or Option.bind_eq_bind Option.bind_some Option.pure_def Bool.and_self Bool.and_true Bool.true_and Bool.and_false Bool.false_and
end Go.Vs

/- Deep calls that hand over slices of their own; a block moved to another name. -/
namespace Go.Vs

/-- The end of a function that is called deep and hands over blocks. -/
def retK (P : Program) (tv : Tv) (n0 : Nat) (own : List Nat) (rs : List ResultVar) (Q : V → Hp → Nat → Prop) : Exit → St → Prop
  | .normal, σ | .ret, σ => (resP tv own (getV σ.tm) rs).vc P σ.hp fun v hp _ => ∃ res hp' nx', VLe v res ∧ Wk n0 ⟨[(0, res)], hp, σ.nx⟩ ⟨[(0, res)], hp', nx'⟩ ∧ Q res hp' nx'
  | _, _ => False

theorem VRels.oneK {x : Cx} {vs : List Value} {ys : List V} (hv : VRels x vs ys) : VRel x (oneR vs) (oneV ys) := by
  match vs, ys, hv with
  | [_], [y], .cons hv .nil => exact hv
  | [], [], .nil => exact .tup #[] [] rfl fun j y hj => by simp at hj
  | v1 :: v2 :: vs, y1 :: y2 :: ys, hv =>
    obtain ⟨h1, h2⟩ := hv.get
    refine .tup _ _ (by simpa using h1) fun j y hj => ?_
    have := h2 j y hj
    simpa [Array.getD_eq_getD_getElem?, List.getD_eq_getElem?_getD] using this

theorem Deep.of_TK {P : Program} {tv : Tv} (env : Env P tv) {f : Nat} {fn : Func} {code : Code} {L : LC} (hf : P.funcs[f]? = some fn) (hn : (fn.name == "runtime.NumGoroutine") = false)
    (hb : fn.body = some code) (hl : light fn.ntmps code = some L) {args : List V} (hlen : args.length ≤ fn.ntmps) {hp : Hp} {nx : Nat} (own : List Nat) {Q : V → Hp → Nat → Prop}
    (h : T P fn.ntmps nx ⟨argTmV 0 args, hp, nx⟩ L (retK P tv nx own fn.results.toList Q)) : Deep P f args hp nx Q := by
  refine ⟨fn, hf, hn, by rw [hb]; rfl, fun CM γ w vs hh hvs => ?_⟩
  have hvl : vs.length = args.length := hvs.length
  have hs0 : SRel ((St.mk (argTmV 0 args) hp nx).cx w γ CM) (getV (argTmV 0 args)) { tmps := vs.toArray ++ Array.replicate (fn.ntmps - vs.toArray.size) undef, defers := [] } :=
    { hp := hh.hp
      inj := hh.inj
      lt := hh.lt
      cm := hh.cm
      tm := fun t => by
        have := argTmV_rel hvs 0 t (List.replicate (fn.ntmps - vs.length) undef) (Nat.zero_le _)
        have e : (vs.toArray ++ Array.replicate (fn.ntmps - vs.toArray.size) undef).getD t undef = (vs ++ List.replicate (fn.ntmps - vs.length) undef).getD t undef := by
          have e2 : vs.toArray ++ Array.replicate (fn.ntmps - vs.toArray.size) undef = (vs ++ List.replicate (fn.ntmps - vs.length) undef).toArray := by
            apply Array.ext'
            simp
          rw [e2]
          simp [Array.getD_eq_getD_getElem?, List.getD_eq_getElem?_getD]
        rw [Nat.sub_zero] at this
        exact e ▸ this
      defers := rfl }
  refine calls_of_wp hf hb (wp_mono (h (Nat.le_refl _) code hl CM _ _ w ?_ hs0) fun e a' w' hp => ?_)
  · simp
    omega
  obtain ⟨σ', γ', hq, hn', hsz, hs, hfr, hev⟩ := hp
  have key : ((resP tv own (getV σ'.tm) fn.results.toList).vc P σ'.hp fun v hp _ => ∃ res hp' nx', VLe v res ∧ Wk nx ⟨[(0, res)], hp, σ'.nx⟩ ⟨[(0, res)], hp', nx'⟩ ∧ Q res hp' nx') →
      a'.defers = [] ∧ ∃ v, (results fn a'.tmps).run P w' = .ok v w' ∧ ∃ v' γ' res hp' nx', Ending.returned v = .returned v' ∧ Q res hp' nx' ∧ nx ≤ nx' ∧
        HRel ((St.mk [] hp' nx').cx w' γ' CM) ∧ VRel ((St.mk [] hp' nx').cx w' γ' CM) v' res ∧ Fr ((St.mk [] hp nx).cx w γ CM) ((St.mk [] hp' nx').cx w' γ' CM) ∧
        Ev (fun b => b < nx) ((St.mk [] hp nx).cx w γ CM) ((St.mk [] hp' nx').cx w' γ' CM) := by
    intro hq
    obtain ⟨v, hp1, fp, hx, res, hp', nx', hle, hwk, hQ⟩ := Prog.vc_exec _ hq
    obtain ⟨ys, vs', fp1, hx, hvs, hrun⟩ := resL_sim env.tv hs fn.results.toList hx
    obtain ⟨ds, hp2, fp2, hx, hh2, hf2, he2, hv2, hg2, _⟩ := keepVs_sim hs.toHRel hvs hx
    obtain ⟨rfl, rfl, _⟩ := hx
    refine ⟨hs.defers, _, run_results hrun, oneR vs', ?_⟩
    have hs2 : SRel ((St.mk [(0, res)] hp1 σ'.nx).cx w' γ' CM) (getV [(0, res)]) { tmps := #[oneR vs'], defers := [] } :=
      { hp := hh2.hp
        inj := hh2.inj
        lt := hh2.lt
        cm := hh2.cm
        tm := fun t => by
          cases t with
          | zero => exact hle.on hv2.oneK
          | succ t =>
            have : getV [(0, res)] (t + 1) = .junk := rfl
            rw [this]
            exact .junk _
        defers := rfl }
    obtain ⟨g1, g2⟩ := hwk hn'
    obtain ⟨γ2, k1, k2, k3⟩ := g2 CM γ' _ w' hs2
    refine ⟨γ2, res, hp', nx', rfl, hQ, g1, k1.toHRel, k1.tm 0, (hfr.trans hf2).trans k2, (hev.trans (he2.sub fun b hb => Nat.lt_of_lt_of_le hb hn')).trans k3⟩
  cases e with
  | normal => exact key hq
  | ret => exact key hq
  | _ => exact hq.elim

section
variable {P : Program} {tv : Tv} {N n0 : Nat} {tm : Tm} {hp : Hp} {nx : Nat}
@[go_sem] theorem wQ_retK {n1 : Nat} {own : List Nat} {rs : List ResultVar} {q : V → Hp → Nat → Prop} : wQ .normal ⟨tm, hp, nx⟩ (Q := ⟨retK P tv n1 own rs q⟩) =
    wvc P (resP tv own (getV tm) rs) hp (K := ⟨fun v hp' _ => wEnd n1 nx v hp' (Q := ⟨q⟩)⟩) := by
  unfold wQ wvc wEnd
  rfl
@[go_sem] theorem wQ_retK_ret {n1 : Nat} {own : List Nat} {rs : List ResultVar} {q : V → Hp → Nat → Prop} : wQ .ret ⟨tm, hp, nx⟩ (Q := ⟨retK P tv n1 own rs q⟩) =
    wvc P (resP tv own (getV tm) rs) hp (K := ⟨fun v hp' _ => wEnd n1 nx v hp' (Q := ⟨q⟩)⟩) := by
  unfold wQ wvc wEnd
  rfl
theorem Deep.of_wTK {P : Program} {tv : Tv} (env : Env P tv) {f : Nat} {fn : Func} {L : LC} (hf : P.funcs[f]? = some fn) (hn : (fn.name == "runtime.NumGoroutine") = false)
    (hl : fn.body.bind (light fn.ntmps) = some L) {n : Nat} (hnt : fn.ntmps = n) {rs : List ResultVar} (hrs : fn.results.toList = rs) {args : List V} (hlen : args.length ≤ n) {hp : Hp} {nx : Nat} (own : List Nat) {Q : V → Hp → Nat → Prop}
    (h : wT P n nx (L := ⟨L⟩) ⟨argTmV 0 args, hp, nx⟩ (Q := ⟨retK P tv nx own rs Q⟩)) : Deep P f args hp nx Q := by
  subst hnt hrs
  obtain ⟨code, hb, hl⟩ := Option.bind_eq_some_iff.1 hl
  unfold wT at h
  exact Deep.of_TK env hf hn hb hl hlen own h
end

/-! ### A block moved to another name -/

mutual
def C.not (n : Nat) : C → Prop
  | .d _ => True
  | .cd _ _ => True
  | .ref b _ _ _ => b ≠ n
  | .bref b _ _ _ => b ≠ n
  | .ptr b _ => b ≠ n
  | .eptr b _ _ _ => b ≠ n
  | .mref b => b ≠ n
  | .fn _ cap => C.notL n cap
  | .junk => True
def C.notL (n : Nat) : List C → Prop
  | [] => True
  | c :: cs => c.not n ∧ C.notL n cs
end
mutual
def V.not (n : Nat) : V → Prop
  | .c x => x.not n
  | .agg cs => C.notL n cs
  | .tup vs => V.notL n vs
  | .junk => True
def V.notL (n : Nat) : List V → Prop
  | [] => True
  | v :: vs => v.not n ∧ V.notL n vs
end
def Blk.not (n : Nat) : Blk → Prop
  | .box cs => C.notL n cs
  | _ => True
theorem C.notL_get {n : Nat} : ∀ {cs : List C}, C.notL n cs → ∀ {j : Nat} {y : C}, cs[j]? = some y → y.not n
  | [], _, j, y, h => by simp at h
  | c :: cs, hb, j, y, h => by
    obtain ⟨h1, h2⟩ := hb
    cases j with
    | zero => simp at h; exact h ▸ h1
    | succ j => exact C.notL_get h2 (by simpa using h)
theorem V.notL_get {n : Nat} : ∀ {cs : List V}, V.notL n cs → ∀ {j : Nat} {y : V}, cs[j]? = some y → y.not n
  | [], _, j, y, h => by simp at h
  | z :: zs, hb, j, y, h => by
    obtain ⟨h1, h2⟩ := hb
    cases j with
    | zero => simp at h; exact h ▸ h1
    | succ j => exact V.notL_get h2 (by simpa using h)
def tmNot (n : Nat) : Tm → Prop
  | [] => True
  | (_, v) :: s => v.not n ∧ tmNot n s
def hpNot (n : Nat) : Hp → Prop
  | [] => True
  | (b, x) :: s => (b ≠ n ∧ x.not n) ∧ hpNot n s
theorem tmNot_get {n : Nat} : ∀ {s : Tm}, tmNot n s → ∀ {k : Nat} {v : V}, look s k = some v → v.not n
  | [], _, k, v, h => by simp [look] at h
  | (k', v') :: s, hs, k, v, h => by
    simp only [look] at h
    split at h
    · cases h; exact hs.1
    · exact tmNot_get hs.2 h
theorem hpNot_get {n : Nat} : ∀ {s : Hp}, hpNot n s → ∀ {k : Nat} {v : Blk}, look s k = some v → k ≠ n ∧ v.not n
  | [], _, k, v, h => by simp [look] at h
  | (k', v') :: s, hs, k, v, h => by
    simp only [look] at h
    split at h
    · rename_i e; cases h; exact e ▸ hs.1
    · exact hpNot_get hs.2 h

/-- The same, where one name is not known. -/
abbrev Cx.but (x : Cx) (n : Nat) : Cx := { x with U := fun b => x.U b ∧ b ≠ n }

theorem CRel.but {x : Cx} {n : Nat} {v : Value} {y : C} (hr : CRel x v y) : y.not n → CRel (x.but n) v y := by
  induction hr with
  | d v e h => exact fun _ => .d v e h
  | cd v k e h => exact fun _ => .cd v k e h
  | junk v h => exact fun _ => .junk v h
  | refNil b esz fz h hu => exact fun hb => .refNil b esz fz h ⟨hu, hb⟩
  | ref b c off m cap esz es fz arr e fr h hg hw h1 h2 h3 hu => exact fun hb => .ref b c off m cap esz es fz arr e fr h hg hw h1 h2 h3 ⟨hu, hb⟩
  | refOld b g off m v h1 hu h => exact fun hb => .refOld b g off m v h1 ⟨hu, hb⟩ h
  | bref b c off m cap esz cs h hg h1 h2 hu => exact fun hb => .bref b c off m cap esz cs h hg h1 h2 ⟨hu, hb⟩
  | brefOld b off m esz v h1 hu h => exact fun hb => .brefOld b off m esz v h1 ⟨hu, hb⟩ h
  | ptr b c off cs h hg hu => exact fun hb => .ptr b c off cs h hg ⟨hu, hb⟩
  | ptrOld b off v h1 hu h => exact fun hb => .ptrOld b off v h1 ⟨hu, hb⟩ h
  | eptr b c i off esz es fz h hg hi hu => exact fun hb => .eptr b c i off esz es fz h hg hi ⟨hu, hb⟩
  | eptrOld b g i off v h1 hu h => exact fun hb => .eptrOld b g i off v h1 ⟨hu, hb⟩ h
  | mref b c es h hg hu => exact fun hb => .mref b c es h hg ⟨hu, hb⟩
  | mrefOld b v h1 hu h => exact fun hb => .mrefOld b v h1 ⟨hu, hb⟩ h
  | fn f caps cap hsz _ ih => exact fun hb => .fn f caps cap hsz fun j y hj => ih j y hj (C.notL_get hb hj)
theorem VRel.but {x : Cx} {n : Nat} {v : Value} {y : V} (hr : VRel x v y) : y.not n → VRel (x.but n) v y := by
  induction hr with
  | c v y h => exact fun hb => .c v y (h.but hb)
  | agg arr cs hsz hr => exact fun hb => .agg arr cs hsz fun j y h => (hr j y h).but (C.notL_get hb h)
  | tup arr vs hsz _ ih => exact fun hb => .tup arr vs hsz fun j y h => ih j y h (V.notL_get hb h)
  | junk v => exact fun _ => .junk v
theorem BRel.but {x : Cx} {n b : Nat} {blk : Blk} (hr : BRel x b blk) (hb : blk.not n) : BRel (x.but n) b blk := by
  cases blk with
  | box cs =>
    obtain ⟨c, arr, e, h1, h2, h3, h4⟩ := hr
    exact ⟨c, arr, e, h1, h2, h3, fun j y h => (h4 j y h).but (C.notL_get hb h)⟩
  | sl esz es fz => exact hr
  | mp es => exact hr

theorem Wk.mv {n0 nx b b' c0 g off n esz : Nat} {tm : Tm} {hp : Hp} {cs : List C} {es : List (List D)} {fz : Bool} (j : Nat) (hc : look hp c0 = some (.box cs)) (hj : cs[j]? = some (.ref b g off n))
    (hb : look hp b = some (.sl esz es fz)) (hnb : n0 ≤ b) (hnb' : n0 ≤ b') (hlt : b' < nx) (hbb : b ≠ b') (ht : tmNot b' tm) (hh : hpNot b' hp) :
    Wk n0 ⟨tm, hp, nx⟩ ⟨tm, setL (setL (delL hp b) c0 (.box (cs.set j (.ref b' g off n)))) b' (.sl esz es fz), nx⟩ := fun hn => ⟨hn, fun CM γ a w hs => by
  have hc0 := hpNot_get hh hc
  have hcb : c0 ≠ b := fun e => by rw [e, hb] at hc; cases hc
  let hp' : Hp := setL (setL (delL hp b) c0 (.box (cs.set j (.ref b' g off n)))) b' (.sl esz es fz)
  let γ' : Gam := fun i => if i = b' then γ b else if i = b then none else γ i
  have hpe : look hp' = upd (upd (look (delL hp b)) c0 (.box (cs.set j (.ref b' g off n)))) b' (.sl esz es fz) := by
    show look (setL _ _ _) = _
    rw [look_setL, look_setL]
  have p1 : look hp' b' = some (.sl esz es fz) := by rw [hpe, upd_same]
  have p2 : look hp' c0 = some (.box (cs.set j (.ref b' g off n))) := by rw [hpe, upd_other _ _ hc0.1, upd_same]
  have p3 : look hp' b = none := by rw [hpe, upd_other _ _ hbb, upd_other _ _ (fun e => hcb e.symm), look_delL, if_pos rfl]
  have p4 : ∀ i, i ≠ b' → i ≠ c0 → i ≠ b → look hp' i = look hp i := fun i h1 h2 h3 => by rw [hpe, upd_other _ _ h1, upd_other _ _ h2, look_delL, if_neg h3]
  have p5 : look hp b' = none := by
    cases h : look hp b' with
    | none => rfl
    | some blk => exact absurd rfl (hpNot_get hh h).1
  have g1 : γ' b' = γ b := if_pos rfl
  have g2 : γ' b = none := by show (if b = b' then γ b else if b = b then none else γ b) = none; rw [if_neg hbb, if_pos rfl]
  have g3 : ∀ i, i ≠ b' → i ≠ b → γ' i = γ i := fun i h1 h2 => by show (if i = b' then γ b else if i = b then none else γ i) = γ i; rw [if_neg h1, if_neg h2]
  have hfr : Fr ((St.mk tm hp nx).cx w γ CM) ((St.mk tm hp' nx).cx w γ' CM) :=
    { os := rfl
      tape := rfl
      output := rfl
      size := Nat.le_refl _
      same := fun _ _ _ => rfl
      muts := fun c _ ⟨i, blk, h1, h2, h3⟩ => by
        have h1 : look hp' i = some blk := h1
        have h3 : γ' i = some c := h3
        by_cases e1 : i = b'
        · rw [e1, p1] at h1
          rw [e1, g1] at h3
          exact ⟨b, _, hb, by cases h1; exact h2, h3⟩
        · by_cases e2 : i = b
          · rw [e2, p3] at h1; cases h1
          · rw [g3 i e1 e2] at h3
            by_cases e3 : i = c0
            · exact ⟨c0, _, hc, rfl, e3 ▸ h3⟩
            · rw [p4 i e1 e3 e2] at h1
              exact ⟨i, blk, h1, h2, h3⟩
      sz := fun c arr e fr h => ⟨arr, h, rfl⟩
      orig := fun c arr e fr h => .inr ⟨arr, h⟩
      cm := rfl }
  have hev : Ev (fun i => i < nx ∧ i ≠ b') ((St.mk tm hp nx).cx w γ CM) ((St.mk tm hp' nx).cx w γ' CM) :=
    ⟨fun i hi => hi.1, fun i hi => by
      by_cases e2 : i = b
      · subst e2
        unfold EvB
        rw [show ((St.mk tm hp nx).cx w γ CM).hp i = some (.sl esz es fz) from hb]
        exact .inl p3
      · by_cases e3 : i = c0
        · subst e3
          unfold EvB
          rw [show ((St.mk tm hp nx).cx w γ CM).hp i = some (.box cs) from hc]
          exact .inr ⟨_, p2, by simp, g3 i hi.2 e2⟩
        · exact EvB.same (p4 i hi.2 e3 e2) (g3 i hi.2 e2)⟩
  have hev0 : Ev (((St.mk tm hp nx).cx w γ CM).but b').U (((St.mk tm hp nx).cx w γ CM).but b') ((St.mk tm hp' nx).cx w γ' CM) := hev
  have hfr0 : Fr (((St.mk tm hp nx).cx w γ CM).but b') ((St.mk tm hp' nx).cx w γ' CM) := ⟨hfr.os, hfr.tape, hfr.output, hfr.size, hfr.same, hfr.muts, hfr.sz, hfr.cm, hfr.orig⟩
  refine ⟨γ', { hp := fun i blk hi => ?_, inj := fun i i' c h1 h2 => ?_, lt := fun i c h1 => ?_, cm := hs.cm, tm := fun t => ?_, defers := hs.defers }, hfr, ⟨fun i hi => Nat.lt_of_lt_of_le hi hn, fun i hi => hev.2 i ⟨Nat.lt_of_lt_of_le hi hn, by omega⟩⟩⟩
  · have hi : look hp' i = some blk := hi
    by_cases e1 : i = b'
    · subst e1
      rw [p1] at hi
      cases hi
      obtain ⟨_, h2, h3⟩ := hs.hp b _ hb
      refine ⟨hlt, h2, ?_⟩
      rcases h3 with ⟨h3, h4⟩ | ⟨c, arr, e, h3, h4, h5, h6⟩
      · exact .inl ⟨g1.trans h3, h4⟩
      · exact .inr ⟨c, arr, e, g1.trans h3, h4, h5, fun i cs j y q1 q2 => DRel.on hfr (h6 i cs j y q1 q2)⟩
    · by_cases e2 : i = b
      · rw [e2, p3] at hi; cases hi
      · by_cases e3 : i = c0
        · subst e3
          rw [p2] at hi
          cases hi
          obtain ⟨h1, c, arr, e, h2, h3, h4, h5⟩ := hs.hp i _ hc
          refine ⟨h1, c, arr, e, (g3 i e1 e2).trans h2, h3, by simpa using h4, fun k y hk => ?_⟩
          rw [List.getElem?_set] at hk
          split at hk
          · rename_i ejk
            subst ejk
            split at hk
            · cases hk
              have h5j := h5 j _ hj
              generalize arr.getD j undef = v at h5j
              cases h5j with
              | refNil _ esz' fz' h hu =>
                have h : look hp b = some (.sl esz' [] fz') := h
                rw [hb] at h
                cases h
                exact .refNil b' esz fz p1 hlt
              | ref _ c' _ _ cap esz' es' fz' arr' e' fr' h hg hw q1 q2 q3 hu =>
                have h : look hp b = some (.sl esz' es' fz') := h
                rw [hb] at h
                cases h
                exact .ref b' c' off n cap esz es fz arr' e' fr' p1 (g1.trans hg) hw q1 q2 q3 hlt
              | refOld _ _ _ _ _ hone hu h =>
                refine .refOld b' g off n v hone hlt (.inr ?_)
                rcases h with h | ⟨esz', es', fz', h, hl⟩
                · have h : look hp b = none := h
                  rw [hb] at h; cases h
                · exact ⟨esz, es, fz, p1, by
                    have h : look hp b = some (.sl esz' es' fz') := h
                    rw [hb] at h; cases h; exact hl⟩
            · simp at hk
          · exact ((h5 k y hk).but (C.notL_get hc0.2 hk)).on hfr0 hev0
        · rw [p4 i e1 e3 e2] at hi
          obtain ⟨q1, q2⟩ := hs.hp i blk hi
          exact ⟨q1, (q2.but (hpNot_get hh hi).2).on hfr0 hev0 (g3 i e1 e2) fun _ _ => rfl⟩
  · have h1 : γ' i = some c := h1
    have h2 : γ' i' = some c := h2
    have key : ∀ k, γ' k = some c → k = b' ∧ γ b = some c ∨ k ≠ b' ∧ k ≠ b ∧ γ k = some c := fun k hk => by
      by_cases e1 : k = b'
      · rw [e1, g1] at hk; exact .inl ⟨e1, hk⟩
      · by_cases e2 : k = b
        · rw [e2, g2] at hk; cases hk
        · rw [g3 k e1 e2] at hk; exact .inr ⟨e1, e2, hk⟩
    rcases key i h1 with ⟨a1, a2⟩ | ⟨a1, a2, a3⟩ <;> rcases key i' h2 with ⟨b1, b2⟩ | ⟨b1, b2, b3⟩
    · rw [a1, b1]
    · exact absurd (hs.inj i' b c b3 a2) b2
    · exact absurd (hs.inj i b c a3 b2) a2
    · exact hs.inj i i' c a3 b3
  · have h1 : γ' i = some c := h1
    by_cases e1 : i = b'
    · rw [e1, g1] at h1; exact hs.lt b c h1
    · by_cases e2 : i = b
      · rw [e2, g2] at h1; cases h1
      · rw [g3 i e1 e2] at h1; exact hs.lt i c h1
  · show VRel _ _ (getV tm t)
    have := hs.tm t
    cases hl : look tm t with
    | none =>
      have e : getV tm t = .junk := by simp [getV, hl]
      rw [e]
      exact .junk _
    | some v =>
      have e : getV tm t = v := by simp [getV, hl]
      rw [show getV { tm := tm, hp := hp, nx := nx : St }.tm t = v from e] at this
      rw [e]
      exact (this.but (tmNot_get ht hl)).on hfr0 hev0⟩

attribute [go_sem] tmNot hpNot C.not C.notL V.not V.notL Blk.not
end Go.Vs

/- Contracts of functions whose results lead to nothing that was there; calls that are lent data. -/
namespace Go.Vs

section
variable {P : Program} {f : Nat} {ps : List PV} {res : V} {blks : List Blk}

theorem PRels.any {w : World} {ok : Nat → Prop} {vs : List Value} (h : PRels w ok vs ps) : PRels w (fun _ => True) vs ps := h.cm fun _ _ => trivial

theorem GivesF.gives (h : GivesF P f ps res blks) : Gives P f ps res blks := by
  obtain ⟨fn, hf, hn, hb, h⟩ := h
  exact ⟨fn, hf, hn, hb, fun CM w vs hCM hps => h CM w vs hCM hps.any⟩

theorem GivesF.le {res' : V} (h : GivesF P f ps res blks) (hle : VLe res res') : GivesF P f ps res' blks := by
  obtain ⟨fn, hf, hn, hb, h⟩ := h
  refine ⟨fn, hf, hn, hb, fun CM w vs hCM hps => (h CM w vs hCM hps).mono ?_⟩
  rintro en w' ⟨v, γ, rfl, hp⟩
  exact ⟨v, γ, rfl, { hp with v := hle.on hp.v }⟩

def PV.toF : PV → V
  | .c x => .c (lentC false x)
  | .agg cs => .agg (cs.map (lentC false))

theorem PRels.toF {w : World} {CM : Nat → Prop} {U : Nat → Prop} {vs : List Value} (h : PRels w (fun _ => True) vs ps) : VRels ⟨w, fun _ => none, fun _ => none, CM, U⟩ vs (ps.map PV.toF) := by
  have key : ∀ {v : Value} {d : D}, DRel w (fun _ => True) v d → CRel ⟨w, fun _ => none, fun _ => none, CM, U⟩ v (lentC false d) := fun hd => by
    refine DRel.lentC (x := ⟨w, fun _ => none, fun _ => none, CM, U⟩) (hd.mono fun c o _ ho => ⟨⟨fun h => (by cases h), fun ⟨b, blk, h, _⟩ => by simp at h⟩, ho⟩)
  induction h with
  | nil => exact .nil
  | cons hp _ ih =>
    rename_i v p vs ps _
    refine .cons ?_ ih
    cases p with
    | c d => exact .c _ _ (key hp)
    | agg cs =>
      obtain ⟨arr, rfl, h1, h2⟩ := hp
      refine .agg arr _ (by simpa using h1) fun j y hj => ?_
      obtain ⟨d, hd, rfl⟩ := get_map hj
      exact key (h2 j d hd)

theorem GivesF.of_T {tv : Tv} (env : Env P tv) {fn : Func} {code : Code} {L : LC} (hf : P.funcs[f]? = some fn) (hn : (fn.name == "runtime.NumGoroutine") = false)
    (hb : fn.body = some code) (hl : light fn.ntmps code = some L) (hlen : ps.length ≤ fn.ntmps) (own : List Nat) (hnd : own.Nodup)
    (h : T P fn.ntmps 0 ⟨argTmV 0 (ps.map PV.toF), [], 0⟩ L (retT P tv own fn.results.toList res blks)) : GivesF P f ps res blks := by
  refine ⟨fn, hf, hn, by rw [hb]; rfl, fun CM w vs hCM hps => ?_⟩
  have hvl : vs.length = ps.length := hps.length
  have e0 : (St.mk (argTmV 0 (ps.map PV.toF)) [] 0).cx w (fun _ => none) CM = ⟨w, fun _ => none, fun _ => none, CM, fun b => b < 0⟩ := by
    unfold St.cx
    rfl
  have hps0 : VRels ((St.mk (argTmV 0 (ps.map PV.toF)) [] 0).cx w (fun _ => none) CM) vs (ps.map PV.toF) := by rw [e0]; exact hps.toF
  refine Calls.of_T env hf hb hl own hnd h (by omega)
    { hp := fun b blk hb => by simp [St.cx, look] at hb
      inj := fun b b' c hb => by simp [St.cx] at hb
      lt := fun b c hb => by simp [St.cx] at hb
      cm := hCM
      tm := fun t => by
        have := argTmV_rel hps0 0 t (List.replicate (fn.ntmps - vs.length) undef) (Nat.zero_le _)
        have e : (vs.toArray ++ Array.replicate (fn.ntmps - vs.toArray.size) undef).getD t undef = (vs ++ List.replicate (fn.ntmps - vs.length) undef).getD t undef := by
          have e2 : vs.toArray ++ Array.replicate (fn.ntmps - vs.toArray.size) undef = (vs ++ List.replicate (fn.ntmps - vs.length) undef).toArray := by
            apply Array.ext'
            simp
          rw [e2]
          simp [Array.getD_eq_getD_getElem?, List.getD_eq_getElem?_getD]
        rw [Nat.sub_zero] at this
        exact e ▸ this
      defers := rfl }

theorem GivesF.of_wT {tv : Tv} (env : Env P tv) {fn : Func} {L : LC} (hf : P.funcs[f]? = some fn) (hn : (fn.name == "runtime.NumGoroutine") = false)
    (hl : fn.body.bind (light fn.ntmps) = some L) {n : Nat} (hnt : fn.ntmps = n) {rs : List ResultVar} (hrs : fn.results.toList = rs) (hlen : ps.length ≤ n) (own : List Nat) (hnd : own.Nodup)
    (h : wT P n 0 (L := ⟨L⟩) ⟨argTmV 0 (ps.map PV.toF), [], 0⟩ (Q := ⟨retT P tv own rs res blks⟩)) : GivesF P f ps res blks := by
  subst hnt hrs
  obtain ⟨code, hb, hl⟩ := Option.bind_eq_some_iff.1 hl
  unfold wT at h
  exact GivesF.of_T env hf hn hb hl hlen own hnd h
theorem GivesF.of_w {tv : Tv} (env : Env P tv) {fn : Func} {L : LC} (hf : P.funcs[f]? = some fn) (hn : (fn.name == "runtime.NumGoroutine") = false)
    (hl : fn.body.bind (light fn.ntmps) = some L) {n : Nat} (hnt : fn.ntmps = n) {rs : List ResultVar} (hrs : fn.results.toList = rs) (hlen : ps.length ≤ n) (own : List Nat) (hnd : own.Nodup)
    (h : wC P tv n 0 (L := ⟨L⟩) ⟨argTmV 0 (ps.map PV.toF), [], 0⟩ (Q := ⟨retT P tv own rs res blks⟩)) : GivesF P f ps res blks :=
  GivesF.of_wT env hf hn hl hnt hrs hlen own hnd (wT_of env h)

theorem PostC.fr_cm {CM CM' : Nat → Prop} {w w' : World} {γ γ' : Gam} {blks blks' : List Blk} {v : Value} (hp : PostC CM' w γ blks w' v res)
    (hm : ∀ c, c < w.heap.size → ¬ Mut γ' (fun j => blks'[j]?) c) : Fr (Cx.start w CM) ⟨w', γ', fun j => blks'[j]?, CM, fun b => b < blks'.length⟩ :=
  { os := hp.fr.os
    tape := hp.fr.tape
    output := hp.fr.output
    size := hp.fr.size
    same := fun c hc _ => hp.fr.same c hc fun ⟨b, blk, h, _⟩ => by simp [Cx.start] at h
    muts := fun c hc h => absurd h (hm c hc)
    sz := hp.fr.sz
    orig := hp.fr.orig
    cm := rfl }

def flatRows (rows : List (List D)) : Prop := ∀ r ∈ rows, ∀ d ∈ r, d.flat = true

/-- A slice of flat elements that was handed over: nothing of the arguments is in it. -/
theorem GivesF.keep {esz : Nat} {rows : List (List D)} (hfl : flatRows rows) (h : Gives P f ps (.c (.ref 0 rows.length 0 rows.length)) [.sl esz rows false]) :
    GivesF P f ps (.c (.ref 0 rows.length 0 rows.length)) [.sl esz rows false] := by
  obtain ⟨fn, hf, hn, hb, h⟩ := h
  refine ⟨fn, hf, hn, hb, fun CM w vs hCM hps => (h (fun _ => False) w vs (fun _ h => h.elim) (hps.cm fun _ _ h => h)).mono ?_⟩
  rintro e w' ⟨v, γ, rfl, hp⟩
  refine ⟨v, γ, rfl, { h := ⟨fun b blk hb => ?_, hp.h.inj, fun b c hg => ⟨(hp.h.lt b c hg).1, fun hc => ?_⟩, fun c hc => Nat.lt_of_lt_of_le (hCM c hc) hp.fr.size⟩, v := ?_, fr := hp.fr_cm fun c hc ⟨b, blk, h1, h2, h3⟩ => ?_, new := hp.new, dom := hp.dom }⟩
  · obtain ⟨h1, h2⟩ := hp.h.hp b blk hb
    refine ⟨h1, ?_⟩
    have hb0 : b = 0 := by have h1 : b < 1 := h1; omega
    subst hb0
    have hb : some (Blk.sl esz rows false) = some blk := hb
    cases hb
    obtain ⟨h3, h4⟩ := h2
    refine ⟨h3, ?_⟩
    rcases h4 with h4 | ⟨c, arr, e, g1, g2, g3, g4⟩
    · exact .inl h4
    · exact .inr ⟨c, arr, e, g1, g2, g3, fun i cs j y hi hj => (g4 i cs j y hi hj).flat_any (hfl cs (List.mem_of_getElem? hi) y (List.mem_of_getElem? hj))⟩
  · have := hp.new b c hg
    have := hCM c hc
    omega
  · refine .c _ _ ?_
    have hv := hp.v.c_inv
    generalize hn : rows.length = n at hv
    cases hv with
    | refNil _ _ _ h1 h2 => exact .refNil _ _ _ h1 h2
    | ref _ c _ _ cap esz' es fz arr e fr h1 h2 h3 h4 h5 h6 h7 => exact .ref _ c _ _ cap esz' es fz arr e fr h1 h2 h3 h4 h5 h6 h7
    | refOld _ _ _ _ _ h1 h2 h3 => exact .refOld _ _ _ _ _ h1 h2 h3
  · have := hp.new b c h3
    omega

/-- The same, read only from then on. -/
theorem GivesF.frz {esz : Nat} {rows : List (List D)} (hfl : flatRows rows) (h : Gives P f ps (.c (.ref 0 rows.length 0 rows.length)) [.sl esz rows false]) :
    GivesF P f ps (.c (.d (.sl esz rows))) [] := by
  obtain ⟨fn, hf, hn, hb, h⟩ := h
  refine ⟨fn, hf, hn, hb, fun CM w vs hCM hps => (h (fun _ => False) w vs (fun _ h => h.elim) (hps.cm fun _ _ h => h)).mono ?_⟩
  rintro e w' ⟨v, γ, rfl, hp⟩
  refine ⟨v, fun _ => none, rfl, { h := ⟨fun b blk hb => (by simp at hb), fun b b' c h => (by simp at h), fun b c h => (by simp at h), fun c hc => Nat.lt_of_lt_of_le (hCM c hc) hp.fr.size⟩, v := ?_, fr := hp.fr_cm (fun c hc ⟨b, blk, h1, h2, h3⟩ => by simp at h3), new := fun b c h => (by simp at h), dom := fun b c h => (by simp at h) }⟩
  refine .c _ _ (.d _ _ ?_)
  have hv := hp.v.c_inv
  generalize hn : rows.length = n at hv
  have h0 : ([Blk.sl esz rows false] : List Blk)[0]? = some (.sl esz rows false) := rfl
  cases hv with
  | refNil _ esz' _ h1 h2 =>
    have h1 : some (Blk.sl esz rows false) = some (Blk.sl esz' [] _) := h1
    cases h1
    exact .slNil _
  | ref _ c _ _ cap esz' es fz arr e fr h1 h2 h3 h4 h5 h6 h7 =>
    have h1 : some (Blk.sl esz rows false) = some (Blk.sl esz' es fz) := h1
    cases h1
    obtain ⟨g0, g⟩ := (hp.h.hp 0 _ h0).2
    rcases g with ⟨g, _⟩ | ⟨c', arr', e', g1, g2, g3, g4⟩
    · have h2 : γ 0 = some c := h2
      have g : γ 0 = none := g
      rw [h2] at g
      cases g
    · have h2 : γ 0 = some c := h2
      have g1 : γ 0 = some c' := g1
      rw [h2] at g1
      cases g1
      have key := DRel.sl (w := w') (ok := (Cx.mk w' (fun _ => none) (fun j => ([] : List Blk)[j]?) CM fun b => b < ([] : List Blk).length).ok) c 0 cap esz rows arr' e' (0, 0) h5
        ⟨fun hc => by have := hp.new 0 c h2; have := hCM c hc; omega, fun ⟨b, blk, k1, k2, k3⟩ => by simp at k3⟩ g2 (by omega) g0
        (fun i cs j y hi hj => by rw [Nat.zero_add]; exact (g4 i cs j y hi hj).flat_any (hfl cs (List.mem_of_getElem? hi) y (List.mem_of_getElem? hj)))
      rw [Nat.zero_mul]
      exact key
  | refOld _ _ _ _ _ h1 h2 h3 =>
    rcases h3 with h3 | ⟨esz', es, fz, h3, h4⟩
    · have h3 : some (Blk.sl esz rows false) = none := h3
      cases h3
    · have h3 : some (Blk.sl esz rows false) = some (Blk.sl esz' es fz) := h3
      cases h3
      omega

/-! ### Calls whose arguments are lent, and whose results may lead to the same -/

def C.dat? : C → Option D
  | .d x => some x
  | .cd _ x => some x
  | _ => none
def C.dats : List C → Option (List D)
  | [] => some []
  | c :: cs => match c.dat?, C.dats cs with
    | some x, some xs => some (x :: xs)
    | _, _ => none
def V.dat? : V → Option PV
  | .c x => match x.dat? with
    | some d => some (.c d)
    | none => none
  | .agg cs => match C.dats cs with
    | some ds => some (.agg ds)
    | none => none
  | _ => none
def V.dats : List V → Option (List PV)
  | [] => some []
  | v :: vs => match v.dat?, V.dats vs with
    | some x, some xs => some (x :: xs)
    | _, _ => none

theorem CRel.dat {x : Cx} {v : Value} {c : C} {d : D} (h : CRel x v c) (hd : c.dat? = some d) : DRel x.w (fun c => ¬ Mut x.γ x.hp c) v d := by
  cases c with
  | d e => cases hd; exact h.d_inv.mono fun c o hc ho => ⟨hc.2, ho⟩
  | cd k e => cases hd; exact h.cd_inv.mono fun c o hc ho => ⟨hc.2, ho⟩
  | _ => cases hd

theorem C.dats_get : ∀ {cs : List C} {ds : List D}, C.dats cs = some ds → ds.length = cs.length ∧ ∀ (j : Nat) (d : D), ds[j]? = some d → ∃ c, cs[j]? = some c ∧ c.dat? = some d
  | [], ds, h => by
    simp only [C.dats, Option.some.injEq] at h
    subst h
    exact ⟨rfl, fun j d h => by simp at h⟩
  | c :: cs, ds, h => by
    simp only [C.dats] at h
    split at h
    · rename_i y ys h1 h2
      cases h
      obtain ⟨g1, g2⟩ := C.dats_get h2
      refine ⟨by simp [g1], fun j d hj => ?_⟩
      cases j with
      | zero => simp at hj; subst hj; exact ⟨c, rfl, h1⟩
      | succ j => simpa using g2 j d (by simpa using hj)
    · cases h

theorem VRels.dat {x : Cx} {vs : List Value} {ys : List V} (h : VRels x vs ys) : ∀ {ps : List PV}, V.dats ys = some ps → PRels x.w (fun c => ¬ Mut x.γ x.hp c) vs ps := by
  induction h with
  | nil =>
    intro ps hp
    simp only [V.dats, Option.some.injEq] at hp
    subst hp
    exact .nil
  | cons hv _ ih =>
    rename_i v y vs ys _
    intro ps hp
    simp only [V.dats] at hp
    split at hp
    · rename_i p ps' h1 h2
      cases hp
      refine .cons ?_ (ih h2)
      cases y with
      | c z =>
        simp only [V.dat?] at h1
        split at h1
        · rename_i d hd
          cases h1
          exact hv.c_inv.dat hd
        · cases h1
      | agg cs =>
        simp only [V.dat?] at h1
        split at h1
        · rename_i ds hd
          cases h1
          obtain ⟨g1, g2⟩ := C.dats_get hd
          cases hv with
          | agg arr _ hsz hr =>
            refine ⟨arr, rfl, by omega, fun j d hj => ?_⟩
            obtain ⟨c, hc, hcd⟩ := g2 j d hj
            exact (hr j c hc).dat hcd
        · cases h1
      | _ => cases h1
    · cases hp

def C.lent : C → C
  | .d x => lentC false x
  | _ => .junk
def V.lent1 : V → V
  | .c x => .c x.lent
  | .agg cs => .agg (cs.map C.lent)
  | _ => .junk
/-- A result that is lent. -/
def V.lent : V → V
  | .c x => .c x.lent
  | .agg cs => .agg (cs.map C.lent)
  | .tup vs => .tup (vs.map V.lent1)
  | .junk => .junk

theorem CRel.lent {x1 x2 : Cx} (hw : x2.w = x1.w) (hm : ∀ c, x1.ok c → ¬ Mut x2.γ x2.hp c) {v : Value} {c : C} (h : CRel x1 v c) : CRel x2 v c.lent := by
  cases c with
  | d e => exact DRel.lentC (h.d_inv.mono fun c o hc ho => ⟨⟨fun h => (by cases h), hm c hc⟩, by rw [hw]; exact ho⟩)
  | _ => exact .junk _ h.one
theorem VRel.lent1 {x1 x2 : Cx} (hw : x2.w = x1.w) (hm : ∀ c, x1.ok c → ¬ Mut x2.γ x2.hp c) {v : Value} {y : V} (h : VRel x1 v y) : VRel x2 v y.lent1 := by
  cases h with
  | c _ _ h => exact .c _ _ (h.lent hw hm)
  | agg arr cs hsz hr =>
    refine .agg arr _ (by simpa using hsz) fun j y hj => ?_
    obtain ⟨c, hc, rfl⟩ := get_map hj
    exact (hr j c hc).lent hw hm
  | tup => exact .junk _
  | junk => exact .junk _
theorem VRel.lent {x1 x2 : Cx} (hw : x2.w = x1.w) (hm : ∀ c, x1.ok c → ¬ Mut x2.γ x2.hp c) {v : Value} {y : V} (h : VRel x1 v y) : VRel x2 v y.lent := by
  cases h with
  | c _ _ h => exact .c _ _ (h.lent hw hm)
  | agg arr cs hsz hr => exact VRel.lent1 hw hm (.agg arr cs hsz hr)
  | tup arr vs hsz hr =>
    refine .tup arr _ (by simpa using hsz) fun j y hj => ?_
    obtain ⟨c, hc, rfl⟩ := get_map hj
    exact (hr j c hc).lent1 hw hm
  | junk => exact .junk _

/-- A call whose arguments are lent: what it returns is lent too. -/
theorem Deep.of_gives {args : List V} {hp : Hp} {nx : Nat} (ha : V.dats args = some ps) (h : Gives P f ps res []) : Deep P f args hp nx fun v h n => v = res.lent ∧ h = hp ∧ n = nx := by
  obtain ⟨fn, hf, hn, hb, h⟩ := h
  refine ⟨fn, hf, hn, hb, fun CM γ w vs hh hv => ?_⟩
  have hps := hv.dat ha
  refine (h (fun c => Mut γ (look hp) c) w vs (fun c ⟨b, blk, _, _, h3⟩ => (hh.lt b c h3).1) hps).mono ?_
  rintro e w' ⟨v, γ1, rfl, hq⟩
  have notMut0 : ∀ c, ¬ Mut (Cx.start w fun c => Mut γ (look hp) c).γ (Cx.start w fun c => Mut γ (look hp) c).hp c := fun c ⟨b, blk, h1, _⟩ => by simp [Cx.start] at h1
  have hfr : Fr ((St.mk [] hp nx).cx w γ CM) ((St.mk [] hp nx).cx w' γ CM) :=
    { os := hq.fr.os
      tape := hq.fr.tape
      output := hq.fr.output
      size := hq.fr.size
      same := fun c hc _ => hq.fr.same c hc (notMut0 c)
      muts := fun c _ h => h
      sz := hq.fr.sz
      orig := hq.fr.orig
      cm := rfl }
  have hev : Ev (fun b => b < nx) ((St.mk [] hp nx).cx w γ CM) ((St.mk [] hp nx).cx w' γ CM) := ⟨fun b h => h, fun b _ => EvB.same rfl rfl⟩
  have hev' : Ev ((St.mk [] hp nx).cx w γ CM).U ((St.mk [] hp nx).cx w γ CM) ((St.mk [] hp nx).cx w' γ CM) := hev
  refine ⟨v, γ, res.lent, hp, nx, rfl, ⟨rfl, rfl, rfl⟩, Nat.le_refl _, ⟨fun b blk hb => ?_, hh.inj, fun b c hg => ?_, fun c hc => Nat.lt_of_lt_of_le (hh.cm c hc) hq.fr.size⟩, ?_, hfr, hev⟩
  · obtain ⟨h1, h2⟩ := hh.hp b blk hb
    exact ⟨h1, h2.on hfr hev' rfl fun c hc => hq.fr.same c (hh.lt b c hc).1 (notMut0 c)⟩
  · have := hh.lt b c hg
    exact ⟨Nat.lt_of_lt_of_le this.1 hq.fr.size, this.2⟩
  · have hq1 := hq.v
    refine VRel.lent (x2 := (St.mk [] hp nx).cx w' γ CM) ?_ ?_ hq1
    · rfl
    · exact fun c hc hm => hc.1 hm
end

attribute [go_sem] PV.toF C.lent V.lent1 V.lent C.dat? C.dats V.dat? V.dats
end Go.Vs

/- The end of a function that writes into what a call returned: what was there before is lent, and stays. -/
namespace Go.Vs

def lowM (lim : Nat) : Nat → Prop := fun c => c < lim

/-- What lies below lim stays. -/
structure FrT (lim : Nat) (w w' : World) : Prop where
  os : w'.os = w.os
  tape : w'.tape = w.tape
  output : w'.output = w.output
  size : w.heap.size ≤ w'.heap.size
  same : ∀ c : Nat, c < lim → w'.heap[c]? = w.heap[c]?
  sz : ∀ (c : Nat) (arr : Array Value) (e : TypeId) (fr : Nat × Nat), w.heap[c]? = some (Obj.cells arr e fr) → ∃ arr' : Array Value, w'.heap[c]? = some (Obj.cells arr' e fr) ∧ arr'.size = arr.size
  orig : ∀ (c : Nat) (arr : Array Value) (e : TypeId) (fr : Nat × Nat), w'.heap[c]? = some (Obj.cells arr e fr) → fr = (0, 0) ∨ ∃ arr0 : Array Value, w.heap[c]? = some (Obj.cells arr0 e fr)

theorem FrT.refl (lim : Nat) (w : World) : FrT lim w w := ⟨rfl, rfl, rfl, Nat.le_refl _, fun _ _ => rfl, fun _ arr _ _ h => ⟨arr, h, rfl⟩, fun _ arr _ _ h => .inr ⟨arr, h⟩⟩
theorem FrT.trans {lim : Nat} {x y z : World} (h : FrT lim x y) (k : FrT lim y z) : FrT lim x z where
  os := k.os.trans h.os
  tape := k.tape.trans h.tape
  output := k.output.trans h.output
  size := Nat.le_trans h.size k.size
  same := fun c hc => (k.same c hc).trans (h.same c hc)
  sz := fun c arr e fr hw => by
    obtain ⟨a1, h1, s1⟩ := h.sz c arr e fr hw
    obtain ⟨a2, h2, s2⟩ := k.sz c a1 e fr h1
    exact ⟨a2, h2, s2.trans s1⟩
  orig := fun c arr e fr hw => by
    rcases k.orig c arr e fr hw with h1 | ⟨a1, h1⟩
    · exact .inl h1
    · exact h.orig c a1 e fr h1
theorem Fr.toT {x x' : Cx} {lim : Nat} (hh : HRel x) (hcm : x.CM = lowM lim) (h : Fr x x') : FrT lim x.w x'.w where
  os := h.os
  tape := h.tape
  output := h.output
  size := h.size
  same := fun c hc => by
    have hc' : x.CM c := by rw [hcm]; exact hc
    exact h.same c (hh.cm c hc') fun ⟨b, blk, _, _, h3⟩ => (hh.lt b c h3).2 hc'
  sz := h.sz
  orig := h.orig

/-- What was made since may be written. -/
def Zr (lim : Nat) (w : World) : Prop := ∀ (c : Nat) (arr : Array Value) (e : TypeId) (fr : Nat × Nat), lim ≤ c → w.heap[c]? = some (Obj.cells arr e fr) → fr = (0, 0)
theorem Zr.on {lim : Nat} {w w' : World} (h : Zr lim w) (hf : FrT lim w w') : Zr lim w' := fun c arr e fr hc hw => by
  rcases hf.orig c arr e fr hw with h1 | ⟨a1, h1⟩
  · exact h1
  · exact h c a1 e fr hc h1

def PostT (N lim : Nat) (w0 : World) (Q : Exit → St → Prop) : Exit → Act → World → Prop := fun e a' w' =>
  ∃ σ' γ', Q e σ' ∧ a'.tmps.size = N ∧ SRel (σ'.cx w' γ' (lowM lim)) (getV σ'.tm) a' ∧ FrT lim w0 w'

/-- The code ends as Q says, and what lies below a bound stays. -/
def TT (P : Program) (N : Nat) (σ : St) (L : LC) (Q : Exit → St → Prop) : Prop :=
  ∀ (c : Code), light N c = some L → ∀ (lim : Nat) (γ : Gam) (a : Act) (w : World), a.tmps.size = N → Zr lim w → SRel (σ.cx w γ (lowM lim)) (getV σ.tm) a → c.wp P (PostT N lim w Q) a w

section
variable {P : Program} {tv : Tv} {N : Nat} {σ : St} {Q : Exit → St → Prop}

theorem PostT.trans {lim : Nat} {w0 w1 : World} {e : Exit} {a : Act} {w : World} (hf : FrT lim w0 w1) (h : PostT N lim w1 Q e a w) : PostT N lim w0 Q e a w := by
  obtain ⟨σ', γ', h1, h3, h4, h5⟩ := h
  exact ⟨σ', γ', h1, h3, h4, hf.trans h5⟩

theorem TT.of_T {L : LC} (h : T P N 0 σ L Q) : TT P N σ L Q := fun c hc lim γ a w ha hz hs =>
  wp_mono (h (Nat.zero_le _) c hc (lowM lim) γ a w ha hs) fun e a' w' ⟨σ', γ', h1, _, h3, h4, h5, _⟩ => ⟨σ', γ', h1, h3, h4, h5.toT hs.toHRel rfl⟩

def thenTT (P : Program) (N : Nat) (b : LC) (Q : Exit → St → Prop) : Exit → St → Prop
  | .normal, σ => TT P N σ b Q
  | e, σ => Q e σ

theorem TT.seq {a b : LC} (h : TT P N σ a (thenTT P N b Q)) : TT P N σ (.seq a b) Q := fun c hc lim γ ac w ha hz hs => by
  obtain ⟨x, y, rfl, hx, hy⟩ := light_seq hc
  refine wp_seq (wp_mono (h x hx lim γ ac w ha hz hs) fun e a' w' hp => ?_)
  obtain ⟨σ', γ', h1, h3, h4, h5⟩ := hp
  cases e with
  | normal => exact wp_mono (h1 y hy lim γ' a' w' h3 (hz.on h5) h4) fun _ _ _ hq => hq.trans h5
  | _ => exact ⟨σ', γ', h1, h3, h4, h5⟩

theorem TT.block {id : Nat} {a : LC} (h : TT P N σ a (blockT id Q)) : TT P N σ (.block id a) Q := fun c hc lim γ ac w ha hz hs => by
  obtain ⟨x, rfl, hx⟩ := light_block hc
  refine wp_block (wp_mono (h x hx lim γ ac w ha hz hs) fun e a' w' hp => ?_)
  obtain ⟨σ', γ', h1, h2⟩ := hp
  cases e with
  | exit i =>
    show (if i = id then _ else _)
    replace h1 : (if i = id then _ else _) := h1
    split at h1
    · rename_i hi
      rw [if_pos hi]
      exact ⟨σ', γ', h1, h2⟩
    · rename_i hi
      rw [if_neg hi]
      exact ⟨σ', γ', h1, h2⟩
  | _ => exact ⟨σ', γ', h1, h2⟩

theorem TT.wk {σ' : St} {L : LC} (hw : Wk 0 σ σ') (h : TT P N σ' L Q) : TT P N σ L Q := fun c hc lim γ a w ha hz hs => by
  obtain ⟨_, g2⟩ := hw (Nat.zero_le _)
  obtain ⟨γ', k1, k2, _⟩ := g2 (lowM lim) γ a w hs
  exact h c hc lim γ' a w ha hz k1

theorem TT.loop {ι : Type} {L : LC} (I : ι → St) (μ : ι → Nat) (i0 : ι) (h0 : Wk 0 σ (I i0)) (h : ∀ i, TT P N (I i) L (roundT 0 I μ i Q)) : TT P N σ (.loop L) Q := by
  refine TT.wk h0 ?_
  intro c hc lim γ a w ha hz hs
  obtain ⟨x, rfl, hx⟩ := light_loop hc
  intro b k cs
  have key : ∀ m i γ' a' w', μ i = m → a'.tmps.size = N → SRel ((I i).cx w' γ' (lowM lim)) (getV (I i).tm) a' → FrT lim w w' →
      ∃ e a2 w2, PostT N lim w Q e a2 w2 ∧ Arrives P (lone (b.at a' (.code x :: .inLoop x :: k)) cs w') b k cs e a2 w2 := by
    intro m
    induction m using Nat.strongRecOn with
    | _ m ih =>
      intro i γ' a' w' hm ha' hs' hf'
      obtain ⟨e, a1, w1, hp, harr⟩ := h i x hx lim γ' a' w' ha' (hz.on hf') hs' b (.inLoop x :: k) cs
      obtain ⟨σ1, γ1, h1, h3, h4, h5⟩ := hp
      cases e with
      | normal =>
        obtain ⟨j, hwk, hlt⟩ := h1
        obtain ⟨_, g2⟩ := hwk (Nat.zero_le _)
        obtain ⟨γ2, k1, k2, k3⟩ := g2 (lowM lim) γ1 a1 w1 h4
        obtain ⟨e2, a2, w2, hq2, harr2⟩ := ih (μ j) (hm ▸ hlt) j γ2 a1 w1 rfl h3 k1 (hf'.trans h5)
        exact ⟨e2, a2, w2, hq2, .of_steps (Steps.trans harr (.one step_inLoop)) harr2⟩
      | exit id => exact ⟨_, a1, w1, PostT.trans hf' ⟨σ1, γ1, h1, h3, h4, h5⟩, .pass (x := .inLoop x) rfl (fun _ _ => .inl (by simp)) harr⟩
      | goto l => exact ⟨_, a1, w1, PostT.trans hf' ⟨σ1, γ1, h1, h3, h4, h5⟩, .pass (x := .inLoop x) rfl (fun _ _ => .inl (by simp)) harr⟩
      | ret => exact ⟨_, a1, w1, PostT.trans hf' ⟨σ1, γ1, h1, h3, h4, h5⟩, .pass (x := .inLoop x) rfl (fun _ _ => .inl (by simp)) harr⟩
      | panic ch => exact ⟨_, a1, w1, PostT.trans hf' ⟨σ1, γ1, h1, h3, h4, h5⟩, .pass (x := .inLoop x) rfl (fun _ _ => .inl (by simp)) harr⟩
      | outgrown => exact ⟨_, a1, w1, PostT.trans hf' ⟨σ1, γ1, h1, h3, h4, h5⟩, .pass (x := .inLoop x) rfl (fun _ _ => .inl (by simp)) harr⟩
  obtain ⟨e, a', w', hq, harr⟩ := key _ i0 γ a w rfl ha hs (FrT.refl _ _)
  exact ⟨e, a', w', hq, .of_steps (.one step_loop) harr⟩
end

/-! ### What was there before is lent -/

def PV.toK : PV → V
  | .c x => .c (lentC true x)
  | .agg cs => .agg (cs.map (lentC true))
def lendTm : List Nat → List PV → Tm
  | t :: ts, p :: ps => (t, p.toK) :: lendTm ts ps
  | _, _ => []

theorem lendTm_rel {w : World} {f : Nat → Value} : ∀ {ts : List Nat} {ps : List PV}, PRels w (fun _ => True) (ts.map f) ps →
    ∀ t, VRel ((St.mk (lendTm ts ps) [] 0).cx w (fun _ => none) (lowM w.heap.size)) (f t) (getV (lendTm ts ps) t) := by
  have key : ∀ (tm : Tm) {v : Value} {d : D}, DRel w (fun _ => True) v d → CRel ((St.mk tm [] 0).cx w (fun _ => none) (lowM w.heap.size)) v (lentC true d) := fun tm v d hd =>
    DRel.lentC (x := (St.mk tm [] 0).cx w (fun _ => none) (lowM w.heap.size)) (hd.mono fun c o _ ho => ⟨⟨fun _ => lt_of_heap ho, fun ⟨b, blk, h, _⟩ => by simp [St.cx, look] at h⟩, ho⟩)
  have main : ∀ {ts : List Nat} {ps : List PV}, PRels w (fun _ => True) (ts.map f) ps → ∀ (tm : Tm) t, VRel ((St.mk tm [] 0).cx w (fun _ => none) (lowM w.heap.size)) (f t) (getV (lendTm ts ps) t) := by
    intro ts
    induction ts with
    | nil => exact fun _ tm t => .junk _
    | cons t0 ts ih =>
      intro ps hps tm t
      cases hps with
      | cons hp hps =>
        rename_i p ps
        by_cases ht : t0 = t
        · subst ht
          have e : getV (lendTm (t0 :: ts) (p :: ps)) t0 = p.toK := by simp [lendTm, getV, look]
          rw [e]
          cases p with
          | c d => exact .c _ _ (key tm hp)
          | agg cs =>
            obtain ⟨arr, h0, h1, h2⟩ := hp
            rw [h0]
            refine .agg arr _ (by simpa using h1) fun j y hj => ?_
            obtain ⟨d, hd, rfl⟩ := get_map hj
            exact key tm (h2 j d hd)
        · have e : getV (lendTm (t0 :: ts) (p :: ps)) t = getV (lendTm ts ps) t := by simp [lendTm, getV, look, ht]
          rw [e]
          exact ih hps tm t
  intro ts ps h t
  exact main h _ t

theorem T.protect {P : Program} {N nx : Nat} {tm : Tm} {hp : Hp} {L : LC} {Q : Exit → St → Prop} (ts : List Nat) (ps : List PV)
    (hb : (borVs (ts.map (getV tm)) fun ps' _ => .req (ps' = ps) (.ret .junk)).vc P hp fun _ _ _ => True)
    (h : TT P N ⟨lendTm ts ps, [], 0⟩ L fun e σ => ∃ t b, getV σ.tm t = .c (.d (.bool b)) ∧ Q e ⟨[(t, .c (.d (.bool b)))], [], 0⟩) : T P N 0 ⟨tm, hp, nx⟩ L Q := by
  intro hn c hc CM γ a w ha hs
  obtain ⟨v, H', fp, hx, _⟩ := Prog.vc_exec _ hb
  have hv : VRels ((St.mk tm hp nx).cx w γ CM) (ts.map fun t => a.tmps.getD t undef) (ts.map (getV tm)) := by
    clear hb h hx
    induction ts with
    | nil => exact .nil
    | cons t ts ih => exact .cons (hs.tm t) ih
  obtain ⟨ps', br, fp', hx', hany, _⟩ := borVs_sim hs.toHRel hv hx
  obtain ⟨rfl, _⟩ := hx'
  have hs2 : SRel ((St.mk (lendTm ts ps') [] 0).cx w (fun _ => none) (lowM w.heap.size)) (getV (lendTm ts ps')) a :=
    { hp := fun b blk hb => by simp [St.cx, look] at hb
      inj := fun b b' c hb => by simp [St.cx] at hb
      lt := fun b c hb => by simp [St.cx] at hb
      cm := fun c hc => hc
      tm := lendTm_rel hany
      defers := hs.defers }
  refine wp_mono (h c hc w.heap.size _ a w ha (fun c arr e fr hc hw => by have := lt_of_heap hw; omega) hs2) fun e a' w' hp' => ?_
  obtain ⟨σ', γ', ⟨t, b, ht, hQ⟩, h3, h4, h5⟩ := hp'
  have hbv := h4.tm t
  rw [ht] at hbv
  have hbv := hbv.bool_inv
  refine ⟨_, fun _ => none, hQ, Nat.zero_le _, h3,
    { hp := fun b blk hb => by simp [St.cx, look] at hb
      inj := fun b b' c hb => by simp [St.cx] at hb
      lt := fun b c hb => by simp [St.cx] at hb
      cm := fun c hc => Nat.lt_of_lt_of_le (hs.cm c hc) h5.size
      tm := fun t' => ?_
      defers := h4.defers },
    { os := h5.os
      tape := h5.tape
      output := h5.output
      size := h5.size
      same := fun c hc _ => h5.same c hc
      muts := fun c _ ⟨b, blk, h, _⟩ => by simp [St.cx, look] at h
      sz := h5.sz
      cm := rfl
      orig := h5.orig }, ⟨fun b hb => absurd hb (Nat.not_lt_zero b), fun b hb => absurd hb (Nat.not_lt_zero b)⟩⟩
  by_cases hT : t = t'
  · subst hT
    have e : getV [(t, V.c (.d (.bool b)))] t = .c (.d (.bool b)) := by simp [getV, look]
    rw [e, hbv]
    exact .c _ _ (.d _ _ (.bool b))
  · have e : getV [(t, V.c (.d (.bool b)))] t' = .junk := by simp [getV, look, hT]
    rw [e]
    exact .junk _

attribute [go_sem] PV.toK lendTm
end Go.Vs

/- A number in a list that was returned, and that nobody else leads to, is written. -/
namespace Go.Vs

def lists (A : List (List Int)) : List (List D) := A.map fun l => [.sl 1 (nums l)]

/-- One number of a row was written. -/
structure Bump (w w' : World) (c0 k : Nat) (arr0 arr1 : Array Value) : Prop where
  e : ∃ (e : TypeId) (fr : Nat × Nat), w.heap[c0]? = some (.cells arr0 e fr) ∧ w'.heap[c0]? = some (.cells arr1 e fr)
  size : arr1.size = arr0.size
  was : ∃ z, arr0.getD k undef = .int .i64 z
  now : ∃ z, arr1.getD k undef = .int .i64 z
  same : ∀ j, j ≠ k → arr1.getD j undef = arr0.getD j undef
  other : ∀ d, d ≠ c0 → w'.heap[d]? = w.heap[d]?

theorem DRel.int_inv {w : World} {ok : Nat → Prop} {v : Value} {kd : IntKind} {n : Int} (h : DRel w ok v (.int kd n)) : v = .int kd n := by
  cases h
  rfl

section
variable {w w' : World} {c0 k : Nat} {arr0 arr1 : Array Value} {ok : Nat → Prop} {v : Value}

theorem Bump.nums (hb : Bump w w' c0 k arr0 arr1) {l : List Int} (h : DRel w ok v (.sl 1 (nums l))) : ∃ l' : List Int, l'.length = l.length ∧ DRel w' ok v (.sl 1 (Go.Vs.nums l')) := by
  obtain ⟨z1, hz1⟩ := hb.now
  obtain ⟨e0, fr0, hw0, hw1⟩ := hb.e
  generalize hr : Go.Vs.nums l = rows at h
  have hrl : rows.length = l.length := by rw [← hr]; simp [Go.Vs.nums]
  cases h with
  | slNil =>
    have : l = [] := by cases l with | nil => rfl | cons _ _ => simp at hrl
    subst this
    exact ⟨[], rfl, .slNil _⟩
  | slNone a cap =>
    have : l = [] := by cases l with | nil => rfl | cons _ _ => simp at hrl
    subst this
    exact ⟨[], rfl, .slNone a cap _⟩
  | sl c off cap _ _ arr e fr hcap hok hw hsz hlen hrr =>
    have hcell : ∀ i, (h : i < l.length) → arr.getD (off + (i * 1 + 0)) undef = .int .i64 l[i] := fun i h => by
      have := hrr i [.int .i64 l[i]] 0 (.int .i64 l[i]) (by rw [← hr, nums_get, List.getElem?_eq_getElem h]; rfl) rfl
      exact this.int_inv
    by_cases hc : c = c0
    · subst hc
      rw [hw0] at hw
      cases hw
      refine ⟨(List.range l.length).map fun i => if off + i = k then z1 else l.getD i 0, by simp, ?_⟩
      have hl2 : (Go.Vs.nums ((List.range l.length).map fun i => if off + i = k then z1 else l.getD i 0)).length = rows.length := by simp [Go.Vs.nums, hrl]
      have := DRel.sl (w := w') (ok := ok) c off cap 1 (Go.Vs.nums ((List.range l.length).map fun i => if off + i = k then z1 else l.getD i 0)) arr1 e0 fr0 (by omega) hok hw1 (by rw [hl2, hb.size]; exact hsz)
        (fun cs hcs => by
          obtain ⟨n, _, rfl⟩ := List.mem_map.1 hcs
          rfl)
        (fun i cs j x hi hj => by
          rw [nums_get, List.getElem?_map] at hi
          cases hri : (List.range l.length)[i]? with
          | none => rw [hri] at hi; cases hi
          | some i' =>
            rw [hri] at hi
            obtain ⟨hi1, hi2⟩ := List.getElem?_eq_some_iff.1 hri
            simp at hi1 hi2
            subst hi2
            cases hi
            have hj0 : j = 0 := by
              have := (List.getElem?_eq_some_iff.1 hj).1
              simpa using this
            subst hj0
            cases hj
            by_cases hk : off + i = k
            · dsimp only
              rw [if_pos hk, show off + (i * 1 + 0) = k by omega, hz1]
              exact .int .i64 z1
            · dsimp only
              rw [if_neg hk, hb.same _ (by omega), hcell i hi1, List.getD_eq_getElem?_getD, List.getElem?_eq_getElem hi1]
              exact .int .i64 _)
      rw [hl2] at this
      exact this
    · refine ⟨l, rfl, ?_⟩
      rw [hr]
      refine .sl c off cap 1 rows arr e fr hcap hok (by rw [hb.other c hc]; exact hw) hsz hlen fun i cs j x hi hj => ?_
      have hfl : x.flat = true := by
        rw [← hr] at hi
        obtain ⟨n, _, rfl⟩ := List.mem_map.1 (List.mem_of_getElem? hi)
        have := List.mem_of_getElem? hj
        simp only [List.mem_cons, List.not_mem_nil, or_false] at this
        subst this
        rfl
      exact (hrr i cs j x hi hj).flat_any hfl

theorem Bump.lists (hb : Bump w w' c0 k arr0 arr1) {A : List (List Int)} (h : DRel w ok v (.sl 1 (lists A))) : ∃ A' : List (List Int), A'.map List.length = A.map List.length ∧ DRel w' ok v (.sl 1 (Go.Vs.lists A')) := by
  obtain ⟨z0, hz0⟩ := hb.was
  obtain ⟨e0, fr0, hw0, hw1⟩ := hb.e
  generalize hr : Go.Vs.lists A = rows at h
  have hrl : rows.length = A.length := by rw [← hr]; simp [Go.Vs.lists]
  cases h with
  | slNil =>
    have : A = [] := by cases A with | nil => rfl | cons _ _ => simp at hrl
    subst this
    exact ⟨[], rfl, .slNil _⟩
  | slNone a cap =>
    have : A = [] := by cases A with | nil => rfl | cons _ _ => simp at hrl
    subst this
    exact ⟨[], rfl, .slNone a cap _⟩
  | sl c off cap _ _ arr e fr hcap hok hw hsz hlen hrr =>
    have hcell : ∀ i, (h : i < A.length) → DRel w ok (arr.getD (off + (i * 1 + 0)) undef) (.sl 1 (Go.Vs.nums A[i])) := fun i h =>
      hrr i [.sl 1 (Go.Vs.nums A[i])] 0 _ (by rw [← hr, Go.Vs.lists, List.getElem?_map, List.getElem?_eq_getElem h]; rfl) rfl
    have hch : ∀ i, ∃ l' : List Int, ∀ h : i < A.length, l'.length = A[i].length ∧ DRel w' ok (arr.getD (off + (i * 1 + 0)) undef) (.sl 1 (Go.Vs.nums l')) := fun i => by
      by_cases h : i < A.length
      · obtain ⟨l', h1, h2⟩ := hb.nums (hcell i h)
        exact ⟨l', fun _ => ⟨h1, h2⟩⟩
      · exact ⟨[], fun h' => absurd h' h⟩
    let g : Nat → List Int := fun i => (hch i).choose
    have hg : ∀ i (h : i < A.length), (g i).length = A[i].length ∧ DRel w' ok (arr.getD (off + (i * 1 + 0)) undef) (.sl 1 (Go.Vs.nums (g i))) := fun i h => (hch i).choose_spec h
    refine ⟨(List.range A.length).map g, ?_, ?_⟩
    · apply List.ext_getElem
      · simp
      · intro i h1 h2
        simp only [List.getElem_map, List.getElem_range]
        exact (hg i (by simpa using h2)).1
    · have hl2 : (Go.Vs.lists ((List.range A.length).map g)).length = rows.length := by simp [Go.Vs.lists, hrl]
      -- the row of the slices
      have hrow : ∃ (arr' : Array Value) (e' : TypeId) (fr' : Nat × Nat), w'.heap[c]? = some (.cells arr' e' fr') ∧ arr'.size = arr.size ∧ ∀ i, i < A.length → arr'.getD (off + (i * 1 + 0)) undef = arr.getD (off + (i * 1 + 0)) undef := by
        by_cases hc : c = c0
        · subst hc
          rw [hw0] at hw
          cases hw
          refine ⟨arr1, e0, fr0, hw1, hb.size, fun i hi => hb.same _ fun hk => ?_⟩
          have := hcell i hi
          rw [hk, hz0] at this
          cases this
        · exact ⟨arr, e, fr, by rw [hb.other c hc]; exact hw, rfl, fun _ _ => rfl⟩
      obtain ⟨arr', e', fr', h1, h2, h3⟩ := hrow
      have := DRel.sl (w := w') (ok := ok) c off cap 1 (Go.Vs.lists ((List.range A.length).map g)) arr' e' fr' (by omega) hok h1 (by rw [hl2, h2]; exact hsz)
        (fun cs hcs => by
          obtain ⟨n, _, rfl⟩ := List.mem_map.1 hcs
          rfl)
        (fun i cs j x hi hj => by
          rw [Go.Vs.lists, List.getElem?_map, List.getElem?_map] at hi
          cases hri : (List.range A.length)[i]? with
          | none => rw [hri] at hi; cases hi
          | some i' =>
            rw [hri] at hi
            obtain ⟨hi1, hi2⟩ := List.getElem?_eq_some_iff.1 hri
            simp at hi1 hi2
            subst hi2
            cases hi
            have hj0 : j = 0 := by
              have := (List.getElem?_eq_some_iff.1 hj).1
              simpa using this
            subst hj0
            cases hj
            rw [h3 i hi1]
            exact (hg i hi1).2)
      rw [hl2] at this
      exact this
end

/-! ### The region that writes -/

/-- What such a write leaves as it is. -/
def C.still (b : Nat) : C → Prop
  | .d x => x.flat = true
  | .cd k _ => k = true
  | .ptr b' _ => b' = b
  | .junk => True
  | _ => False
def V.still (b : Nat) : V → Prop
  | .c x => x.still b
  | .junk => True
  | _ => False
def tmStill (b : Nat) : Tm → Prop
  | [] => True
  | (_, v) :: s => v.still b ∧ tmStill b s
theorem tmStill_get {b : Nat} : ∀ {s : Tm}, tmStill b s → ∀ {k : Nat} {v : V}, look s k = some v → v.still b
  | [], _, k, v, h => by simp [look] at h
  | (k', v') :: s, hs, k, v, h => by
    simp only [look] at h
    split at h
    · cases h; exact hs.1
    · exact tmStill_get hs.2 h
def csStill (b j : Nat) : Nat → List C → Prop
  | _, [] => True
  | i, c :: cs => (i = j ∨ c.still b) ∧ csStill b j (i + 1) cs
theorem csStill_get {b j : Nat} : ∀ {cs : List C} {i : Nat}, csStill b j i cs → ∀ {n : Nat} {c : C}, cs[n]? = some c → i + n = j ∨ c.still b
  | [], i, _, n, c, h => by simp at h
  | c' :: cs, i, hs, n, c, h => by
    cases n with
    | zero => simp at h; subst h; exact hs.1
    | succ n =>
      have := csStill_get hs.2 (n := n) (by simpa using h)
      rw [show i + (n + 1) = i + 1 + n by omega]
      exact this

theorem lightOps_app {arr : Array Oper} : ∀ {l : List Oper} {pre : List LOp} {last : LOp}, lightOps arr l = some (pre ++ [last]) → ∃ l0 o, l = l0 ++ [o] ∧ lightOps arr l0 = some pre ∧ lightOp arr o = some last
  | [], pre, last, h => by simp [lightOps] at h
  | o :: l, pre, last, h => by
    simp only [lightOps] at h
    split at h
    · rename_i x xs hx hxs
      cases pre with
      | nil =>
        simp at h
        obtain ⟨rfl, rfl⟩ := h
        cases l with
        | nil => exact ⟨[], o, rfl, rfl, hx⟩
        | cons o' l =>
          simp only [lightOps] at hxs
          split at hxs <;> simp at hxs
      | cons p pre =>
        simp at h
        obtain ⟨rfl, rfl⟩ := h
        obtain ⟨l0, o', rfl, h2, h3⟩ := lightOps_app hxs
        exact ⟨o :: l0, o', rfl, by simp only [lightOps, hx, h2], h3⟩
    · simp at h

theorem lightOp_none {arr : Array Oper} {o : Oper} {d : Option Nat} {op : Op} (h : lightOp arr o = some ⟨d, op, none⟩) : o.guard = none ∧ o.dst = d ∧ o.op = op := by
  unfold lightOp at h
  split at h
  · rename_i hg
    cases h
    exact ⟨hg, rfl, rfl⟩
  · split at h <;> simp at h

theorem dstsOk_app {N : Nat} : ∀ {l l' : List Oper}, dstsOk N (l ++ l') = true → dstsOk N l = true
  | [], _, _ => rfl
  | o :: l, l', h => by
    rw [List.cons_append, dstsOk, Bool.and_eq_true] at h
    rw [dstsOk, Bool.and_eq_true]
    exact ⟨h.1, dstsOk_app h.2⟩

section
variable {P : Program} {tv : Tv} {N : Nat}

/-- The first operations of a region, none of them guarded. -/
theorem vcO_pre {x0 : Cx} {arr : Array Oper} {K : Tm → Hp → Nat → Prop} {Q0 : Exit → Act → World → Prop} (htv : TvOk P tv) {rest : List Nat} :
    ∀ (l : List Oper) (pre : List LOp) (i nx : Nat) (tm : Tm) (hp : Hp) (a : Act) (w : World) (γ : Gam), (∃ l', arr.toList.drop i = l ++ l') → lightOps arr l = some pre → dstsOk N l = true → (∀ lo ∈ pre, lo.guard = none) →
      vcO P tv pre tm hp nx K → a.tmps.size = N → SRel ((St.mk tm hp nx).cx w γ x0.CM) (getV tm) a → Fr x0 ((St.mk tm hp nx).cx w γ x0.CM) →
      (∀ tm' hp' nx' a' w' γ', K tm' hp' nx' → a'.tmps.size = N → SRel ((St.mk tm' hp' nx').cx w' γ' x0.CM) (getV tm') a' → Fr x0 ((St.mk tm' hp' nx').cx w' γ' x0.CM) → wpOps P arr Q0 rest a' w') →
      wpOps P arr Q0 (List.range' i l.length ++ rest) a w
  | [], pre, i, nx, tm, hp, a, w, γ, _, hl, _, _, h, ha, hs, hf, hK => by
    simp [lightOps] at hl
    subst hl
    exact hK tm hp nx a w γ h ha hs hf
  | o :: l, pre, i, nx, tm, hp, a, w, γ, ⟨l', hdr⟩, hl, hds, hg0, h, ha, hs, hf, hK => by
    simp only [lightOps] at hl
    split at hl
    · rename_i lo xs hlo hxs
      cases hl
      have hi : arr[i]? = some o := by
        have := congrArg (fun l => l[0]?) hdr
        simpa using this
      have hdr' : arr.toList.drop (i + 1) = l ++ l' := by
        have := congrArg (fun l => l.drop 1) hdr
        simpa [List.drop_drop, Nat.add_comm] using this
      have hds' : dstsOk N l = true ∧ ∀ d, o.dst = some d → d < N := by
        rw [dstsOk, Bool.and_eq_true] at hds
        refine ⟨hds.2, fun d hd => ?_⟩
        have := hds.1
        rw [hd] at this
        simpa using this
      obtain ⟨dst, op, guard⟩ := lo
      have hgn : guard = none := hg0 _ (List.mem_cons_self ..)
      subst hgn
      obtain ⟨hg, rfl, rfl⟩ := lightOp_none hlo
      rw [List.length_cons, List.range'_succ, List.cons_append, wpOps_cons]
      exact opO_sim htv hi (by simp [guardV, hg]) hs (fun d hd => by rw [ha]; exact hds'.2 d hd) h fun a' w' γ' v hp' nx' hk hnx gs gf ge gsz => by
        refine vcO_pre htv l xs (i + 1) nx' (putL o.dst v tm) hp' a' w' γ' ⟨l', hdr'⟩ hxs hds'.1 (fun lo hlo => hg0 lo (List.mem_cons_of_mem _ hlo)) hk (gsz.trans ha) ?_ (hf.trans gf) hK
        rw [getV_putL]
        exact gs
    · simp at hl

theorem CRel.stillOn {x x' : Cx} {b : Nat} {v : Value} {y : C} (h : CRel x v y) (hs : y.still b) (hk : ∀ c o, x.okc true c → x.w.heap[c]? = some o → x'.okc true c ∧ x'.w.heap[c]? = some o)
    (hb : ∃ cs, x.hp b = some (.box cs)) (hb' : ∃ cs, x'.hp b = some (.box cs)) (hγ : x'.γ b = x.γ b) (hU : x'.U b) : CRel x' v y := by
  cases h with
  | d _ _ h => exact .d _ _ (h.flat_any hs)
  | cd _ k e h =>
    have hs : k = true := hs
    subst hs
    exact .cd _ _ _ (h.mono hk)
  | junk _ h => exact .junk _ h
  | ptr b' c off cs h1 h2 h3 =>
    have hs : b' = b := hs
    subst hs
    obtain ⟨cs', hb'⟩ := hb'
    exact .ptr _ c off cs' hb' (hγ.trans h2) hU
  | ptrOld b' off _ h1 h2 h3 =>
    have hs : b' = b := hs
    subst hs
    obtain ⟨cs', hb⟩ := hb
    rw [hb] at h3
    cases h3
  | _ => exact hs.elim

theorem VRel.stillOn {x x' : Cx} {b : Nat} {v : Value} {y : V} (h : VRel x v y) (hs : y.still b) (hk : ∀ c o, x.okc true c → x.w.heap[c]? = some o → x'.okc true c ∧ x'.w.heap[c]? = some o)
    (hb : ∃ cs, x.hp b = some (.box cs)) (hb' : ∃ cs, x'.hp b = some (.box cs)) (hγ : x'.γ b = x.γ b) (hU : x'.U b) : VRel x' v y := by
  cases h with
  | c _ _ h => exact .c _ _ (h.stillOn hs hk hb hb' hγ hU)
  | junk => exact .junk _
  | _ => exact hs.elim

theorem TT.bump {tm : Tm} {b nx j t p q nx' : Nat} {pre : List LOp} {pairs : List (Nat × Nat)} {cs : List C} {A : List (List Int)} {tmK : Tm} {Q : Exit → St → Prop} (env : Env P tv) (ht : (look tv t).map (·.size) = some 1)
    (hA : cs[j]? = some (.d (.sl 1 (lists A)))) (hcs : csStill b j 0 cs) (htm : tmStill b tmK) (hbn : b < nx') (hg0 : ∀ lo ∈ pre, lo.guard = none)
    (hpre : vcO P tv pre tm [(b, .box cs)] nx fun tm1 hp1 nx1 => hp1 = [(b, .box cs)] ∧ subL tmK tm1 ∧ (∃ z more, getV tm1 p = .c (.d (.fp (.int .i64 z :: more)))) ∧ ∃ z, getV tm1 q = .c (.d (.int .i64 z)))
    (hQ : ∀ A' : List (List Int), A'.map List.length = A.map List.length → Q .normal ⟨tmK, [(b, .box (cs.set j (.d (.sl 1 (lists A')))))], nx'⟩) :
    TT P N ⟨tm, [(b, .box cs)], nx⟩ (.reg false (pre ++ [⟨none, .store t (.tmp p) (.tmp q), none⟩]) pairs) Q := by
  intro c hc lim γ a w ha hz hs
  obtain ⟨id, arr, rfl, hls, hds, _⟩ := light_reg hc
  obtain ⟨l0, o, hl0, hlp, hlo⟩ := lightOps_app hls
  obtain ⟨hg, hdst, hop⟩ := lightOp_none hlo
  have hlen : arr.size = l0.length + 1 := by
    have := congrArg List.length hl0
    simpa using this
  refine wp_region ?_
  have hr : List.range arr.size = List.range' 0 l0.length ++ [l0.length] := by
    rw [List.range_eq_range', hlen, List.range'_concat]
    simp
  rw [hr]
  refine vcO_pre (N := N) (x0 := (St.mk tm [(b, .box cs)] nx).cx w γ (lowM lim)) env.tv l0 pre 0 nx tm _ a w γ ⟨[o], by simpa using hl0⟩ hlp (dstsOk_app (by rw [← hl0]; exact hds)) hg0 hpre ha hs (Fr.refl _) ?_
  rintro tm1 hp1 nx1 a1 w1 γ1 ⟨rfl, hsub, ⟨z, more, hp⟩, z', hq⟩ ha1 hs1 hf1
  have hft := hf1.toT hs.toHRel rfl
  have hz1 : Zr lim w1 := hz.on hft
  have hi : arr[l0.length]? = some o := by
    have := congrArg (fun l => l[l0.length]?) hl0
    simpa using this
  rw [wpOps_cons]
  unfold wpOp
  rw [hi]
  dsimp only
  rw [wanted_of (b := true) hs1 (by simp [guardV, hg])]
  simp only [if_true]
  left
  -- the pointer and the number
  have hpv := hs1.oper (.tmp p)
  have hqv := hs1.oper (.tmp q)
  rw [show operV (getV tm1) (.tmp p) = _ from hp] at hpv
  rw [show operV (getV tm1) (.tmp q) = _ from hq] at hqv
  have hqv := hqv.int_inv
  have hpv := hpv.c_inv.d_inv
  generalize hev : a1.eval (.tmp p) = ev at hpv
  cases hpv with
  | fp c off _ arr0 e0 fr0 hok hw0 hsz0 hr0 =>
    have hw0 : w1.heap[c]? = some (.cells arr0 e0 fr0) := hw0
    have hcl : lim ≤ c := Nat.le_of_not_lt hok.1
    have hfr0 := hz1 c arr0 e0 fr0 hcl hw0
    subst hfr0
    have hoff : off < arr0.size := by simp only [List.length_cons] at hsz0; omega
    have hwas : arr0.getD off undef = .int .i64 z := by
      have := hr0 0 (.int .i64 z) rfl
      rw [Nat.add_zero] at this
      generalize arr0.getD off undef = u at this
      cases this
      rfl
    obtain ⟨ty, hty, hty1⟩ : ∃ ty, look tv t = some ty ∧ ty.size = 1 := by
      cases hl : look tv t with
      | none => rw [hl] at ht; cases ht
      | some ty => rw [hl] at ht; exact ⟨ty, rfl, by simpa using ht⟩
    have okty := env.tv t ty hty
    have hst := run_storeVar (P := P) okty (off := off) (u := .int .i64 z') hw0 (by rw [hty1]; rfl) (show off + 1 ≤ arr0.size by omega) (fun u hu => by
      have hu : u ∈ [Value.int .i64 z'] := hu
      simp only [List.mem_cons, List.not_mem_nil, or_false] at hu
      subst hu
      exact ⟨fun _ => by simp, fun _ => by simp⟩)
    have hrun : (execOp a1.eval o).run P w1 = .ok .skip (w1.setRow c (splice arr0.toList off (Value.int .i64 z').cells.toList).toArray) := by
      simp [execOp, hop, hev, hqv, Instr.storeAt, Instr.sureAddr, hst]
    unfold Oper.wp
    rw [hrun, Oper.upon_skip]
    have hwr := wrote_setRow (arr' := (splice arr0.toList off (Value.int .i64 z').cells.toList).toArray) hw0
    have hcells : (Value.int .i64 z').cells.toList = [Value.int .i64 z'] := rfl
    rw [hcells] at hwr ⊢
    generalize harr1 : (splice arr0.toList off [Value.int .i64 z']).toArray = arr1 at hwr ⊢
    have hsz1 : arr1.size = arr0.size := by rw [← harr1]; simp [splice_length arr0.toList off [Value.int .i64 z'] (by simp; omega)]
    have hget : ∀ i, arr1.getD i undef = if i = off then Value.int .i64 z' else arr0.getD i undef := fun i => by
      have e1 : arr1.getD i undef = ((splice arr0.toList off [Value.int .i64 z'])[i]?).getD undef := by rw [← harr1]; simp [Array.getD_eq_getD_getElem?]
      rw [e1, splice_get _ _ _ (by simp; omega)]
      by_cases h1 : i < off
      · rw [if_pos h1, if_neg (by omega)]
        simp [Array.getD_eq_getD_getElem?]
      · rw [if_neg h1]
        by_cases h2 : i = off
        · subst h2
          simp
        · rw [if_neg h2, if_neg (by simp; omega)]
          simp [Array.getD_eq_getD_getElem?]
    generalize w1.setRow c arr1 = w2 at hwr ⊢
    have hbump : Bump w1 w2 c off arr0 arr1 :=
      { e := ⟨e0, (0, 0), hw0, hwr.here⟩
        size := hsz1
        was := ⟨z, hwas⟩
        now := ⟨z', by rw [hget, if_pos rfl]⟩
        same := fun i hi => by rw [hget, if_neg hi]
        other := hwr.other }
    -- the block of the variable
    have hbb : look [(b, Blk.box cs)] b = some (.box cs) := by simp [look]
    obtain ⟨hUb, cb, arrb, eb, g1, g2, g3, g4⟩ := hs1.hp b _ hbb
    have hcb : cb ≠ c := fun e => hok.2 ⟨b, .box cs, hbb, rfl, e ▸ g1⟩
    have hjl : j < cs.length := (List.getElem?_eq_some_iff.1 hA).1
    obtain ⟨A', hA1, hA2⟩ := hbump.lists (g4 j _ hA).d_inv
    have hbb2 : look [(b, Blk.box (cs.set j (.d (.sl 1 (lists A')))))] b = some (.box (cs.set j (.d (.sl 1 (lists A'))))) := by simp [look]
    have lookb : ∀ (bx : Blk) b', b' ≠ b → look [(b, bx)] b' = none := fun bx b' h => by
      have : ¬ b = b' := fun e => h e.symm
      simp [look, this]
    have hmut : ∀ c', Mut γ1 (look [(b, Blk.box (cs.set j (.d (.sl 1 (lists A')))))]) c' → Mut γ1 (look [(b, Blk.box cs)]) c' := fun c' ⟨b', blk, h1, h2, h3⟩ => by
      by_cases h : b' = b
      · subst h; exact ⟨b', .box cs, hbb, rfl, h3⟩
      · rw [lookb _ _ h] at h1; cases h1
    have hk : ∀ c' o', ((St.mk tm1 [(b, Blk.box cs)] nx1).cx w1 γ1 (lowM lim)).okc true c' → w1.heap[c']? = some o' →
        ((St.mk tmK [(b, Blk.box (cs.set j (.d (.sl 1 (lists A')))))] nx').cx w2 γ1 (lowM lim)).okc true c' ∧ w2.heap[c']? = some o' := fun c' o' h1 h2 => by
      have hlt : c' < lim := h1.1 rfl
      exact ⟨⟨fun _ => hlt, fun hm => h1.2 (hmut c' hm)⟩, by rw [hwr.other c' (by omega)]; exact h2⟩
    have hs2 : SRel ((St.mk tmK [(b, Blk.box (cs.set j (.d (.sl 1 (lists A')))))] nx').cx w2 γ1 (lowM lim)) (getV tmK) (a1.put o.dst undef) :=
      { hp := fun b' blk hb' => by
          by_cases h : b' = b
          · subst h
            have hb' : look [(b', Blk.box (cs.set j (.d (.sl 1 (lists A')))))] b' = some blk := hb'
            rw [hbb2] at hb'
            cases hb'
            refine ⟨hbn, cb, arrb, eb, g1, by show w2.heap[cb]? = _; rw [hwr.other cb hcb]; exact g2, by simpa using g3, fun n y hn => ?_⟩
            rw [List.getElem?_set] at hn
            split at hn
            · rename_i e
              subst e
              first | rw [if_pos hjl] at hn | skip
              cases hn
              exact .d _ _ (hA2.mono fun c' o' h1 h2 => ⟨⟨h1.1, fun hm => h1.2 (hmut c' hm)⟩, h2⟩)
            · rename_i hne
              rcases csStill_get hcs hn with h0 | h0
              · omega
              · exact (g4 n y hn).stillOn h0 hk ⟨_, hbb⟩ ⟨_, hbb2⟩ rfl hbn
          · have hb' : look [(b, Blk.box (cs.set j (.d (.sl 1 (lists A')))))] b' = some blk := hb'
            rw [lookb _ _ h] at hb'
            cases hb'
        inj := hs1.inj
        lt := fun b' c' h => by
          have := hs1.lt b' c' h
          exact ⟨by show c' < w2.heap.size; rw [hwr.size]; exact this.1, this.2⟩
        cm := fun c' h => by
          have := hs1.cm c' h
          show c' < w2.heap.size
          rw [hwr.size]
          exact this
        tm := fun t' => by
          rw [hdst]
          show VRel _ (a1.tmps.getD t' undef) _
          cases hl : look tmK t' with
          | none =>
            have e : getV tmK t' = .junk := by simp [getV, hl]
            rw [e]
            exact .junk _
          | some v =>
            have e : getV tmK t' = v := by simp [getV, hl]
            have e1 : getV tm1 t' = v := by simp [getV, subL_get hsub hl]
            have := hs1.tm t'
            rw [show getV (St.mk tm1 [(b, Blk.box cs)] nx1).tm t' = v from e1] at this
            rw [e]
            exact this.stillOn (tmStill_get htm hl) hk ⟨_, hbb⟩ ⟨_, hbb2⟩ rfl hbn
        defers := (Act.put_defers' _ _ _).trans hs1.defers }
    refine ⟨_, γ1, hQ A' hA1, (Act.put_size _ _ _).trans ha1, hs2, hft.trans ?_⟩
    exact
      { os := hwr.os
        tape := hwr.tape
        output := hwr.output
        size := Nat.le_of_eq hwr.size.symm
        same := fun c' hc' => hwr.other c' (by omega)
        sz := fun c' arr' e fr h => by
          by_cases hcc : c' = c
          · subst hcc
            have h : w1.heap[c']? = _ := h
            rw [hw0] at h
            cases h
            exact ⟨arr1, hwr.here, hsz1⟩
          · exact ⟨arr', by rw [hwr.other c' hcc]; exact h, rfl⟩
        orig := fun c' arr' e fr h => by
          by_cases hcc : c' = c
          · subst hcc
            rw [hwr.here] at h
            cases h
            exact .inl rfl
          · exact .inr ⟨arr', (hwr.other c' hcc).symm.trans h⟩ }
end

attribute [go_sem] C.still V.still tmStill csStill
end Go.Vs

/- The walk at the end of a function; cells that are forgotten. -/
namespace Go.Vs

section
variable {P : Program} {tv : Tv} {N n0 nx b : Nat} {σ : St} {Q : Kn (Exit → St → Prop)} {tm : Tm} {hp : Hp}

def wTT (P : Program) (N : Nat) [L : Kn LC] (σ : St) [Q : Kn (Exit → St → Prop)] : Prop := TT P N σ L.go Q.go

theorem wTT_seq {a b : LC} (h : wTT P N (L := ⟨a⟩) σ (Q := ⟨thenTT P N b Q.go⟩)) : wTT P N (L := ⟨.seq a b⟩) σ (Q := Q) := by
  unfold wTT at *
  exact TT.seq h
theorem wTT_of {L : Kn LC} (h : wT P N 0 (L := L) σ (Q := Q)) : wTT P N (L := L) σ (Q := Q) := by
  unfold wTT
  unfold wT at h
  exact TT.of_T h
theorem wTT_block {id : Nat} {c : LC} (h : wTT P N (L := ⟨c⟩) σ (Q := ⟨blockT id Q.go⟩)) : wTT P N (L := ⟨.block id c⟩) σ (Q := Q) := by
  unfold wTT at *
  exact TT.block h
theorem wTT_wk {L : Kn LC} {σ' : St} (hw : Wk 0 σ σ') (h : wTT P N (L := L) σ' (Q := Q)) : wTT P N (L := L) σ (Q := Q) := by
  unfold wTT at *
  exact TT.wk hw h
theorem wTT_loop {ι : Type} {c : LC} (I : ι → St) (μ : ι → Nat) (i0 : ι) (h0 : Wk 0 σ (I i0)) (h : ∀ i, wTT P N (L := ⟨c⟩) (I i) (Q := ⟨roundT 0 I μ i Q.go⟩)) : wTT P N (L := ⟨.loop c⟩) σ (Q := Q) := by
  unfold wTT at *
  exact TT.loop I μ i0 h0 h
@[go_sem] theorem wQ_thenTT {b : LC} {q : Exit → St → Prop} : wQ .normal σ (Q := ⟨thenTT P N b q⟩) = wTT P N (L := ⟨b⟩) σ (Q := ⟨q⟩) := by
  unfold wTT wQ
  rfl
@[go_sem] theorem wQ_thenTT_ret {b : LC} {q : Exit → St → Prop} : wQ .ret σ (Q := ⟨thenTT P N b q⟩) = wQ .ret σ (Q := ⟨q⟩) := by
  unfold wQ
  rfl
@[go_sem] theorem wQ_thenTT_exit {b : LC} {q : Exit → St → Prop} {id : Nat} : wQ (.exit id) σ (Q := ⟨thenTT P N b q⟩) = wQ (.exit id) σ (Q := ⟨q⟩) := by
  unfold wQ
  rfl

/-- What the rest of a function must end in, when what was there is lent. -/
def endB (t : Nat) (b : Bool) : Exit → St → Prop
  | .ret, σ => getV σ.tm t = .c (.d (.bool b))
  | _, _ => False
@[go_sem] theorem wQ_endB {t : Nat} {b : Bool} {nx : Nat} : wQ .ret ⟨tm, hp, nx⟩ (Q := ⟨endB t b⟩) = (getV tm t = .c (.d (.bool b))) := by
  unfold wQ
  rfl
theorem wT_protect {L : Kn LC} (ts : List Nat) (ps : List PV) (t : Nat) (b : Bool)
    (hb : wvc P (borVs (ts.map (getV tm)) fun ps' _ => .req (ps' = ps) (.ret .junk)) hp (K := ⟨fun _ _ _ => True⟩))
    (hq : wQ .ret ⟨[(t, .c (.d (.bool b)))], [], 0⟩ (Q := Q))
    (h : wTT P N (L := L) ⟨lendTm ts ps, [], 0⟩ (Q := ⟨endB t b⟩)) : wT P N 0 (L := L) ⟨tm, hp, nx⟩ (Q := Q) := by
  unfold wT
  unfold wvc at hb
  unfold wTT at h
  unfold wQ at hq
  refine T.protect ts ps hb fun c hc lim γ a w ha hz hs => wp_mono (h c hc lim γ a w ha hz hs) fun e a' w' hp' => ?_
  obtain ⟨σ', γ', h1, h2⟩ := hp'
  cases e with
  | ret => exact ⟨σ', γ', ⟨t, b, h1, hq⟩, h2⟩
  | _ => exact h1.elim

theorem wTT_bump {tm : Tm} {b nx j t p q nx' : Nat} {ops pre : List LOp} {pairs : List (Nat × Nat)} {cs : List C} {A : List (List Int)} {tmK : Tm} (env : Env P tv) (hops : ops = pre ++ [⟨none, .store t (.tmp p) (.tmp q), none⟩]) (ht : (look tv t).map (·.size) = some 1)
    (hA : cs[j]? = some (.d (.sl 1 (lists A)))) (hcs : csStill b j 0 cs) (htm : tmStill b tmK) (hbn : b < nx') (hg0 : ∀ lo ∈ pre, lo.guard = none)
    (hpre : wO P tv (ls := ⟨pre⟩) tm [(b, .box cs)] nx (K := ⟨fun tm1 hp1 nx1 => hp1 = [(b, .box cs)] ∧ subL tmK tm1 ∧ (∃ z more, getV tm1 p = .c (.d (.fp (.int .i64 z :: more)))) ∧ ∃ z, getV tm1 q = .c (.d (.int .i64 z))⟩))
    (hQ : ∀ A' : List (List Int), A'.map List.length = A.map List.length → wQ .normal ⟨tmK, [(b, .box (cs.set j (.d (.sl 1 (lists A')))))], nx'⟩ (Q := Q)) :
    wTT P N (L := ⟨.reg false ops pairs⟩) ⟨tm, [(b, .box cs)], nx⟩ (Q := Q) := by
  unfold wTT
  unfold wO at hpre
  unfold wQ at hQ
  subst hops
  exact TT.bump env ht hA hcs htm hbn hg0 hpre hQ
end

/-- Cells that are forgotten. -/
def JuL : List C → List C → Prop
  | [], [] => True
  | c :: cs, d :: ds => (d = .junk ∨ d = c) ∧ JuL cs ds
  | _, _ => False
theorem JuL.get : ∀ {cs ds : List C}, JuL cs ds → ds.length = cs.length ∧ ∀ (j : Nat) (d : C), ds[j]? = some d → ∃ c, cs[j]? = some c ∧ (d = .junk ∨ d = c)
  | [], [], _ => ⟨rfl, fun j d h => by simp at h⟩
  | c :: cs, d :: ds, h => by
    obtain ⟨g1, g2⟩ := JuL.get h.2
    refine ⟨by simp [g1], fun j y hj => ?_⟩
    cases j with
    | zero => simp at hj; subst hj; exact ⟨c, rfl, h.1⟩
    | succ j => simpa using g2 j y (by simpa using hj)
  | [], _ :: _, h => h.elim
  | _ :: _, [], h => h.elim

theorem Wk.boxJunk {n0 nx b : Nat} {tm : Tm} {hp : Hp} {cs cs' : List C} (hb : look hp b = some (.box cs)) (hle : JuL cs cs') :
    Wk n0 ⟨tm, hp, nx⟩ ⟨tm, setL hp b (.box cs'), nx⟩ := fun hn => ⟨hn, fun CM γ a w hs => by
  have hlen := hle.get.1
  have hpe : look (setL hp b (.box cs')) = upd (look hp) b (.box cs') := look_setL _ _ _
  have hpb : look (setL hp b (.box cs')) b = some (.box cs') := by rw [hpe, upd_same]
  have hpo : ∀ i, i ≠ b → look (setL hp b (.box cs')) i = look hp i := fun i h => by rw [hpe, upd_other _ _ h]
  have hfr : Fr ((St.mk tm hp nx).cx w γ CM) ((St.mk tm (setL hp b (.box cs')) nx).cx w γ CM) :=
    { os := rfl
      tape := rfl
      output := rfl
      size := Nat.le_refl _
      same := fun _ _ _ => rfl
      muts := fun c _ ⟨i, blk, g1, g2, g3⟩ => by
        have g1 : look (setL hp b (.box cs')) i = some blk := g1
        by_cases hib : i = b
        · exact ⟨b, _, hb, rfl, hib ▸ g3⟩
        · rw [hpo i hib] at g1
          exact ⟨i, blk, g1, g2, g3⟩
      sz := fun c arr e fr h => ⟨arr, h, rfl⟩
      orig := fun c arr e fr h => .inr ⟨arr, h⟩
      cm := rfl }
  have hev : Ev (fun i => i < nx) ((St.mk tm hp nx).cx w γ CM) ((St.mk tm (setL hp b (.box cs')) nx).cx w γ CM) :=
    ⟨fun i hi => hi, fun i hi => by
      by_cases hib : i = b
      · subst hib
        unfold EvB
        rw [show ((St.mk tm hp nx).cx w γ CM).hp i = some (.box cs) from hb]
        exact .inr ⟨_, hpb, hlen, rfl⟩
      · exact EvB.same (hpo i hib) rfl⟩
  refine ⟨γ, { hp := fun i blk hi => ?_, inj := hs.inj, lt := hs.lt, cm := hs.cm, tm := fun t => (hs.tm t).on hfr hev, defers := hs.defers }, hfr, hev.sub fun i hi => Nat.lt_of_lt_of_le hi hn⟩
  have hi : look (setL hp b (.box cs')) i = some blk := hi
  by_cases hib : i = b
  · subst hib
    rw [hpb] at hi
    cases hi
    obtain ⟨h1, c, arr, e, h2, h3, h4, h5⟩ := hs.hp i _ hb
    refine ⟨h1, c, arr, e, h2, h3, h4.trans hlen.symm, fun k y hk => ?_⟩
    obtain ⟨x, hx, hxy⟩ := hle.get.2 k y hk
    rcases hxy with rfl | rfl
    · exact .junk _ (h5 k x hx).one
    · exact (h5 k y hx).on hfr hev
  · rw [hpo i hib] at hi
    have := hs.hp i blk hi
    exact ⟨this.1, this.2.on hfr hev rfl fun _ _ => rfl⟩⟩

attribute [irreducible] wTT
end Go.Vs
