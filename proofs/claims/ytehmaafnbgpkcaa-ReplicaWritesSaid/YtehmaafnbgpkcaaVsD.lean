/- This text proves a part of what the claim needs: contracts of functions of the program. No condition. -/
import Derived.Test.YtehmaafnbgpkcaaVsC
set_option linter.unusedSimpArgs false
set_option linter.unusedVariables false

/- More weakenings: a nil slice in a cell is a slice without elements. -/
namespace Go.Vs

/-- Cells of a block up to nil slices. -/
theorem Wk.boxLe {n0 nx b : Nat} {tm : Tm} {hp : Hp} {cs cs' : List C} (hb : look hp b = some (.box cs)) (hle : CsLe cs cs') :
    Wk n0 ⟨tm, hp, nx⟩ ⟨tm, setL hp b (.box cs'), nx⟩ := fun hn => ⟨hn, fun CM γ a w hs => by
  have hlen := hle.get.1
  have hpe : look (setL hp b (.box cs')) = upd (look hp) b (.box cs') := look_setL _ _ _
  have hpb : look (setL hp b (.box cs')) b = some (.box cs') := by rw [hpe, upd_same]
  have hpo : ∀ i, i ≠ b → look (setL hp b (.box cs')) i = look hp i := fun i h => by rw [hpe, upd_other _ _ h]
  have hfr : Fr ((St.mk tm hp nx).cx w γ CM) ((St.mk tm (setL hp b (.box cs')) nx).cx w γ CM) :=
    { os := rfl
      tape := rfl
      output := rfl
      size := Nat.le_refl _
      same := fun _ _ _ => rfl
      muts := fun c _ ⟨i, blk, g1, g2, g3⟩ => by
        have g1 : look (setL hp b (.box cs')) i = some blk := g1
        by_cases hib : i = b
        · exact ⟨b, _, hb, rfl, hib ▸ g3⟩
        · rw [hpo i hib] at g1
          exact ⟨i, blk, g1, g2, g3⟩
      sz := fun c arr e fr h => ⟨arr, h, rfl⟩
      orig := fun c arr e fr h => .inr ⟨arr, h⟩
      cm := rfl }
  have hev : Ev (fun i => i < nx) ((St.mk tm hp nx).cx w γ CM) ((St.mk tm (setL hp b (.box cs')) nx).cx w γ CM) :=
    ⟨fun i hi => hi, fun i hi => by
      by_cases hib : i = b
      · subst hib
        unfold EvB
        rw [show ((St.mk tm hp nx).cx w γ CM).hp i = some (.box cs) from hb]
        exact .inr ⟨_, hpb, hlen.symm, rfl⟩
      · exact EvB.same (hpo i hib) rfl⟩
  refine ⟨γ, { hp := fun i blk hi => ?_, inj := hs.inj, lt := hs.lt, cm := hs.cm, tm := fun t => (hs.tm t).on hfr hev, defers := hs.defers }, hfr, hev.sub fun i hi => Nat.lt_of_lt_of_le hi hn⟩
  have hi : look (setL hp b (.box cs')) i = some blk := hi
  by_cases hib : i = b
  · subst hib
    rw [hpb] at hi
    cases hi
    obtain ⟨h1, c, arr, e, h2, h3, h4, h5⟩ := hs.hp i _ hb
    refine ⟨h1, c, arr, e, h2, h3, h4.trans hlen, fun k y hk => ?_⟩
    obtain ⟨x, hx, hxy⟩ := hle.get.2 k y hk
    exact hxy.on ((h5 k x hx).on hfr hev)
  · rw [hpo i hib] at hi
    have := hs.hp i blk hi
    exact ⟨this.1, this.2.on hfr hev rfl fun _ _ => rfl⟩⟩

/-- Elements of a block up to nil slices. -/
theorem Wk.blkLe {n0 nx b esz : Nat} {tm : Tm} {hp : Hp} {es es' : List (List D)} {fz : Bool} (hb : look hp b = some (.sl esz es fz)) (hle : ElsLe es es') :
    Wk n0 ⟨tm, hp, nx⟩ ⟨tm, setL hp b (.sl esz es' fz), nx⟩ := fun hn => ⟨hn, fun CM γ a w hs => by
  obtain ⟨hlen, hrow⟩ := hle.get
  have hpe : look (setL hp b (.sl esz es' fz)) = upd (look hp) b (.sl esz es' fz) := look_setL _ _ _
  have hpb : look (setL hp b (.sl esz es' fz)) b = some (.sl esz es' fz) := by rw [hpe, upd_same]
  have hpo : ∀ i, i ≠ b → look (setL hp b (.sl esz es' fz)) i = look hp i := fun i h => by rw [hpe, upd_other _ _ h]
  have hfr : Fr ((St.mk tm hp nx).cx w γ CM) ((St.mk tm (setL hp b (.sl esz es' fz)) nx).cx w γ CM) :=
    { os := rfl
      tape := rfl
      output := rfl
      size := Nat.le_refl _
      same := fun _ _ _ => rfl
      muts := fun c _ ⟨i, blk, g1, g2, g3⟩ => by
        have g1 : look (setL hp b (.sl esz es' fz)) i = some blk := g1
        by_cases hib : i = b
        · subst hib
          rw [hpb] at g1
          cases g1
          exact ⟨i, _, hb, g2, g3⟩
        · rw [hpo i hib] at g1
          exact ⟨i, blk, g1, g2, g3⟩
      sz := fun c arr e fr h => ⟨arr, h, rfl⟩
      orig := fun c arr e fr h => .inr ⟨arr, h⟩
      cm := rfl }
  have hev : Ev (fun i => i < nx) ((St.mk tm hp nx).cx w γ CM) ((St.mk tm (setL hp b (.sl esz es' fz)) nx).cx w γ CM) :=
    ⟨fun i hi => hi, fun i hi => by
      by_cases hib : i = b
      · subst hib
        unfold EvB
        rw [show ((St.mk tm hp nx).cx w γ CM).hp i = some (.sl esz es fz) from hb]
        exact .inr ⟨_, _, hpb, .inl ⟨hlen.symm, rfl⟩⟩
      · exact EvB.same (hpo i hib) rfl⟩
  refine ⟨γ, { hp := fun i blk hi => ?_, inj := hs.inj, lt := hs.lt, cm := hs.cm, tm := fun t => (hs.tm t).on hfr hev, defers := hs.defers }, hfr, hev.sub fun i hi => Nat.lt_of_lt_of_le hi hn⟩
  have hi : look (setL hp b (.sl esz es' fz)) i = some blk := hi
  by_cases hib : i = b
  · subst hib
    rw [hpb] at hi
    cases hi
    obtain ⟨h1, h2, h3⟩ := hs.hp i _ hb
    have get : ∀ j b, es'[j]? = some b → ∃ a, es[j]? = some a := fun j b hb => by
      have := (List.getElem?_eq_some_iff.1 hb).1
      exact ⟨es[j], List.getElem?_eq_getElem (by omega)⟩
    refine ⟨h1, fun cs hcs => ?_, ?_⟩
    · obtain ⟨j, hj⟩ := List.getElem?_of_mem hcs
      obtain ⟨a, ha⟩ := get j cs hj
      rw [← (hrow j a cs ha hj).get.1]
      exact h2 a (List.mem_of_getElem? ha)
    · rcases h3 with ⟨g1, g2⟩ | ⟨c, arr, e, g1, g2, g3, g4⟩
      · subst g2
        exact .inl ⟨g1, List.eq_nil_of_length_eq_zero hlen.symm⟩
      · refine .inr ⟨c, arr, e, g1, g2, by rw [← hlen]; exact g3, fun j cs k y hj hk => ?_⟩
        obtain ⟨a, ha⟩ := get j cs hj
        obtain ⟨q1, q2⟩ := (hrow j a cs ha hj).get
        have hk' := (List.getElem?_eq_some_iff.1 hk).1
        have hx : a[k]? = some a[k] := List.getElem?_eq_getElem (by omega)
        exact ((q2 k _ y hx hk).on (g4 j a k _ ha hx)).on hfr
  · rw [hpo i hib] at hi
    have := hs.hp i blk hi
    exact ⟨this.1, this.2.on hfr hev rfl fun _ _ => rfl⟩⟩

end Go.Vs

/- More weakenings: a slice of the call's own that is never written again is data. -/
namespace Go.Vs

/-- Cells of a block, read in another way. -/
theorem Wk.boxOn {n0 nx b : Nat} {tm : Tm} {hp : Hp} {cs cs' : List C} (hb : look hp b = some (.box cs)) (hlen : cs.length = cs'.length)
    (hle : ∀ (CM : Nat → Prop) (γ : Gam) (w : World), HRel ((St.mk tm hp nx).cx w γ CM) → ∀ (k : Nat) (y : C), cs'[k]? = some y → ∃ x, cs[k]? = some x ∧
      ∀ v, CRel ((St.mk tm hp nx).cx w γ CM) v x → CRel ((St.mk tm hp nx).cx w γ CM) v y) :
    Wk n0 ⟨tm, hp, nx⟩ ⟨tm, setL hp b (.box cs'), nx⟩ := fun hn => ⟨hn, fun CM γ a w hs => by
  have hpe : look (setL hp b (.box cs')) = upd (look hp) b (.box cs') := look_setL _ _ _
  have hpb : look (setL hp b (.box cs')) b = some (.box cs') := by rw [hpe, upd_same]
  have hpo : ∀ i, i ≠ b → look (setL hp b (.box cs')) i = look hp i := fun i h => by rw [hpe, upd_other _ _ h]
  have hfr : Fr ((St.mk tm hp nx).cx w γ CM) ((St.mk tm (setL hp b (.box cs')) nx).cx w γ CM) :=
    { os := rfl
      tape := rfl
      output := rfl
      size := Nat.le_refl _
      same := fun _ _ _ => rfl
      muts := fun c _ ⟨i, blk, g1, g2, g3⟩ => by
        have g1 : look (setL hp b (.box cs')) i = some blk := g1
        by_cases hib : i = b
        · exact ⟨b, _, hb, rfl, hib ▸ g3⟩
        · rw [hpo i hib] at g1
          exact ⟨i, blk, g1, g2, g3⟩
      sz := fun c arr e fr h => ⟨arr, h, rfl⟩
      orig := fun c arr e fr h => .inr ⟨arr, h⟩
      cm := rfl }
  have hev : Ev (fun i => i < nx) ((St.mk tm hp nx).cx w γ CM) ((St.mk tm (setL hp b (.box cs')) nx).cx w γ CM) :=
    ⟨fun i hi => hi, fun i hi => by
      by_cases hib : i = b
      · subst hib
        unfold EvB
        rw [show ((St.mk tm hp nx).cx w γ CM).hp i = some (.box cs) from hb]
        exact .inr ⟨_, hpb, hlen.symm, rfl⟩
      · exact EvB.same (hpo i hib) rfl⟩
  refine ⟨γ, { hp := fun i blk hi => ?_, inj := hs.inj, lt := hs.lt, cm := hs.cm, tm := fun t => (hs.tm t).on hfr hev, defers := hs.defers }, hfr, hev.sub fun i hi => Nat.lt_of_lt_of_le hi hn⟩
  have hi : look (setL hp b (.box cs')) i = some blk := hi
  by_cases hib : i = b
  · subst hib
    rw [hpb] at hi
    cases hi
    obtain ⟨h1, c, arr, e, h2, h3, h4, h5⟩ := hs.hp i _ hb
    refine ⟨h1, c, arr, e, h2, h3, h4.trans hlen, fun k y hk => ?_⟩
    obtain ⟨x, hx, hxy⟩ := hle CM γ w hs.toHRel k y hk
    exact (hxy _ (h5 k x hx)).on hfr hev
  · rw [hpo i hib] at hi
    have := hs.hp i blk hi
    exact ⟨this.1, this.2.on hfr hev rfl fun _ _ => rfl⟩⟩


/-- A block is never written again. -/
theorem Wk.frz {n0 nx b esz : Nat} {tm : Tm} {hp : Hp} {es : List (List D)} {fz : Bool} (hb : look hp b = some (.sl esz es fz)) :
    Wk n0 ⟨tm, hp, nx⟩ ⟨tm, setL hp b (.sl esz es true), nx⟩ := fun hn => ⟨hn, fun CM γ a w hs => by
  obtain ⟨g1, g2, g3⟩ := frz_rel [.c (.ref b 0 0 0)] hs
  have e : frzVs hp [.c (.ref b 0 0 0)] = setL hp b (.sl esz es true) := by simp [frzVs, frzV, hb]
  rw [e] at g1 g2 g3
  exact ⟨γ, g1, g2, g3.sub fun i hi => Nat.lt_of_lt_of_le hi hn⟩⟩

theorem ref_data {x : Cx} {v : Value} {b g off n esz : Nat} {es : List (List D)} (hh : HRel x) (hb : x.hp b = some (.sl esz es true)) (hl : es.length = g) (hon : off + n ≤ g)
    (hv : CRel x v (.ref b g off n)) : CRel x v (.d (.sl esz ((es.drop off).take n))) := by
  refine .d _ _ ?_
  cases hv with
  | refNil _ _ _ hb2 _ =>
    rw [hb] at hb2
    cases hb2
    simp
    exact .slNil _
  | ref _ c _ _ cap esz' es' fz' arr e fr hb2 hg hw h1 h2 h3 hu =>
    rw [hb] at hb2
    cases hb2
    exact sl_part (hh.hp b _ hb).2 hg h1 h2 (fz_ok hh hb hg) fun _ h => h
  | refOld _ _ _ _ _ _ _ h =>
    rcases h with h | ⟨_, _, _, h, hl2⟩
    · rw [hb] at h; simp at h
    · rw [hb] at h; cases h; omega

/-- A cell that leads to a frozen block is data. -/
theorem Wk.cellData {n0 nx b b' esz g off n : Nat} {tm : Tm} {hp : Hp} {cs : List C} {es : List (List D)} (j : Nat) (hb : look hp b = some (.box cs)) (hj : cs[j]? = some (.ref b' g off n))
    (hb' : look hp b' = some (.sl esz es true)) (hl : es.length = g) (hon : off + n ≤ g) :
    Wk n0 ⟨tm, hp, nx⟩ ⟨tm, setL hp b (.box (cs.set j (.d (.sl esz ((es.drop off).take n))))), nx⟩ :=
  Wk.boxOn hb (by simp) fun CM γ w hh k y hk => by
    rw [List.getElem?_set] at hk
    split at hk
    · rename_i e
      subst e
      split at hk
      · cases hk
        exact ⟨_, hj, fun v hv => ref_data hh hb' hl hon hv⟩
      · simp at hk
    · exact ⟨y, hk, fun v hv => hv⟩

/-- A slot that leads to a frozen block is data. -/
theorem Wk.slotData {n0 nx t b' esz g off n : Nat} {tm : Tm} {hp : Hp} {es : List (List D)} (ht : getV tm t = .c (.ref b' g off n))
    (hb' : look hp b' = some (.sl esz es true)) (hl : es.length = g) (hon : off + n ≤ g) :
    Wk n0 ⟨tm, hp, nx⟩ ⟨setL tm t (.c (.d (.sl esz ((es.drop off).take n)))), hp, nx⟩ := fun hn => ⟨hn, fun CM γ a w hs => by
  refine ⟨γ, { hs.toHRel with tm := fun i => ?_, defers := hs.defers }, Fr.refl _, (Ev.refl fun _ h => h).sub fun i hi => Nat.lt_of_lt_of_le hi hn⟩
  show VRel _ _ (getV (setL tm t _) i)
  rw [getV_setL]
  by_cases hi : i = t
  · subst hi
    simp only [if_true]
    have := hs.tm i
    rw [show getV tm i = _ from ht] at this
    exact .c _ _ (ref_data hs.toHRel hb' hl hon this.c_inv)
  · dsimp only
    rw [if_neg hi]
    exact hs.tm i⟩
end Go.Vs

/- Sequences without a computed condition; a box that is never written again is data. -/
namespace Go.Vs

def delL {α : Type} : List (Nat × α) → Nat → List (Nat × α)
  | [], _ => []
  | (k, v) :: s, j => if k = j then delL s j else (k, v) :: delL s j
theorem look_delL {α : Type} : ∀ (s : List (Nat × α)) (j i : Nat), look (delL s j) i = if i = j then none else look s i
  | [], j, i => by simp [delL, look]
  | (k, v) :: s, j, i => by
    have ih := look_delL s j i
    simp only [delL]
    split
    · rename_i h
      rw [ih]
      by_cases hi : i = j
      · simp [hi]
      · have : ¬ k = i := fun e => hi (by omega)
        simp [look, hi, this]
    · rename_i h
      simp only [look]
      by_cases hk : k = i
      · have : ¬ i = j := fun e => h (by omega)
        simp [hk, this]
      · simp only [hk, if_false]
        exact ih
attribute [go_sem] delL

/-- The world is the same; a block is forgotten. -/
theorem Wk.boxData {n0 nx t b off : Nat} {tm : Tm} {hp : Hp} {ds : List D} (ht : getV tm t = .c (.ptr b off)) (hb : look hp b = some (.box (ds.map .d))) (hoff : off ≤ ds.length) :
    Wk n0 ⟨tm, hp, nx⟩ ⟨setL tm t (.c (.d (.fp (ds.drop off)))), delL hp b, nx⟩ := fun hn => ⟨hn, fun CM γ a w hs => by
  have hlook : ∀ i blk, look (delL hp b) i = some blk → look hp i = some blk ∧ i ≠ b := fun i blk h => by
    rw [look_delL] at h
    split at h
    · simp at h
    · exact ⟨h, by assumption⟩
  have hfr : Fr ((St.mk tm hp nx).cx w γ CM) ((St.mk (setL tm t (.c (.d (.fp (ds.drop off))))) (delL hp b) nx).cx w γ CM) :=
    { os := rfl
      tape := rfl
      output := rfl
      size := Nat.le_refl _
      same := fun _ _ _ => rfl
      muts := fun c _ ⟨i, blk, g1, g2, g3⟩ => ⟨i, blk, (hlook i blk g1).1, g2, g3⟩
      sz := fun c arr e fr h => ⟨arr, h, rfl⟩
      orig := fun c arr e fr h => .inr ⟨arr, h⟩
      cm := rfl }
  have hev : Ev (fun b => b < nx) ((St.mk tm hp nx).cx w γ CM) ((St.mk (setL tm t (.c (.d (.fp (ds.drop off))))) (delL hp b) nx).cx w γ CM) := ⟨fun _ h => h, fun i _ => by
    have e : look (delL hp b) i = if i = b then none else look hp i := look_delL hp b i
    by_cases hi : i = b
    · rw [if_pos hi] at e
      unfold EvB
      split
      · exact e
      · exact .inl e
      · exact .inl e
      · exact .inl e
    · rw [if_neg hi] at e
      exact EvB.same e rfl⟩
  refine ⟨γ, { hp := fun i blk hi => ?_, inj := hs.inj, lt := hs.lt, cm := hs.cm, tm := fun j => ?_, defers := hs.defers }, hfr, hev.sub fun b hb => Nat.lt_of_lt_of_le hb hn⟩
  · have hi : look (delL hp b) i = some blk := hi
    obtain ⟨g1, g2⟩ := hs.hp i blk (hlook i blk hi).1
    exact ⟨g1, g2.on hfr hev rfl fun _ _ => rfl⟩
  · show VRel _ _ (getV (setL tm t (.c (.d (.fp (ds.drop off))))) j)
    rw [getV_setL]
    by_cases hj : j = t
    · subst hj
      simp only [if_true]
      have := hs.tm j
      rw [show getV tm j = _ from ht] at this
      have hc := this.c_inv
      have hb0 : ((St.mk tm hp nx).cx w γ CM).hp b = some (.box (ds.map .d)) := hb
      refine .c _ _ (.d _ _ ?_)
      generalize a.tmps.getD j undef = v at hc
      cases hc with
      | ptrOld _ _ _ _ _ h => rw [hb0] at h; simp at h
      | ptr _ c _ cs h hg hu =>
        obtain ⟨_, c', arr, e, g1, g2, g3, g4⟩ := hs.hp b _ hb0
        rw [hg] at g1
        cases g1
        have hnm : ¬ Mut γ (look (delL hp b)) c := fun ⟨i, blk, k1, k2, k3⟩ => (hlook i blk k1).2 (hs.inj i b c k3 hg)
        refine .fp c off (ds.drop off) arr e (0, 0) ⟨(hs.lt b c hg).2, hnm⟩ g2 ?_ fun k y hk => ?_
        · have g3 : arr.size = (ds.map C.d).length := g3
          simp at g3 ⊢
          omega
        · have hk' : ds[off + k]? = some y := by simpa [List.getElem?_drop] using hk
          have hd := g4 (off + k) (.d y) (by simp [hk'])
          exact DRel.on hfr hd.d_inv
    · dsimp only
      rw [if_neg hj]
      exact (hs.tm j).on hfr hev⟩

/-- A map that is never written again is data. -/
theorem Wk.mapData {n0 nx t b : Nat} {tm : Tm} {hp : Hp} {es : List (D × D)} (ht : getV tm t = .c (.mref b)) (hb : look hp b = some (.mp es)) :
    Wk n0 ⟨tm, hp, nx⟩ ⟨setL tm t (.c (.d (.mp es))), delL hp b, nx⟩ := fun hn => ⟨hn, fun CM γ a w hs => by
  have hlook : ∀ i blk, look (delL hp b) i = some blk → look hp i = some blk ∧ i ≠ b := fun i blk h => by
    rw [look_delL] at h
    split at h
    · simp at h
    · exact ⟨h, by assumption⟩
  have hfr : Fr ((St.mk tm hp nx).cx w γ CM) ((St.mk (setL tm t (.c (.d (.mp es)))) (delL hp b) nx).cx w γ CM) :=
    { os := rfl
      tape := rfl
      output := rfl
      size := Nat.le_refl _
      same := fun _ _ _ => rfl
      muts := fun c _ ⟨i, blk, g1, g2, g3⟩ => ⟨i, blk, (hlook i blk g1).1, g2, g3⟩
      sz := fun c arr e fr h => ⟨arr, h, rfl⟩
      orig := fun c arr e fr h => .inr ⟨arr, h⟩
      cm := rfl }
  have hev : Ev (fun b => b < nx) ((St.mk tm hp nx).cx w γ CM) ((St.mk (setL tm t (.c (.d (.mp es)))) (delL hp b) nx).cx w γ CM) := ⟨fun _ h => h, fun i _ => by
    have e : look (delL hp b) i = if i = b then none else look hp i := look_delL hp b i
    by_cases hi : i = b
    · rw [if_pos hi] at e
      unfold EvB
      split
      · exact e
      · exact .inl e
      · exact .inl e
      · exact .inl e
    · rw [if_neg hi] at e
      exact EvB.same e rfl⟩
  refine ⟨γ, { hp := fun i blk hi => ?_, inj := hs.inj, lt := hs.lt, cm := hs.cm, tm := fun j => ?_, defers := hs.defers }, hfr, hev.sub fun b hb => Nat.lt_of_lt_of_le hb hn⟩
  · have hi : look (delL hp b) i = some blk := hi
    obtain ⟨g1, g2⟩ := hs.hp i blk (hlook i blk hi).1
    exact ⟨g1, g2.on hfr hev rfl fun _ _ => rfl⟩
  · show VRel _ _ (getV (setL tm t (.c (.d (.mp es)))) j)
    rw [getV_setL]
    by_cases hj : j = t
    · subst hj
      simp only [if_true]
      have := hs.tm j
      rw [show getV tm j = _ from ht] at this
      have hc := this.c_inv
      have hb0 : ((St.mk tm hp nx).cx w γ CM).hp b = some (.mp es) := hb
      refine .c _ _ (.d _ _ ?_)
      generalize a.tmps.getD j undef = v at hc
      cases hc with
      | mrefOld _ _ _ _ h => rw [hb0] at h; simp at h
      | mref _ c es' h hg hu =>
        obtain ⟨_, c', ents, clk, g1, g2, g3, g4, g5⟩ := hs.hp b _ hb0
        rw [hg] at g1
        cases g1
        have hnm : ¬ Mut γ (look (delL hp b)) c := fun ⟨i, blk, k1, k2, k3⟩ => (hlook i blk k1).2 (hs.inj i b c k3 hg)
        exact .mp c ents clk es ⟨(hs.lt b c hg).2, hnm⟩ g2 g3 (fun k y hk => DRel.on hfr (g4 k y hk)) fun k y hk => DRel.on hfr (g5 k y hk)
    · dsimp only
      rw [if_neg hj]
      exact (hs.tm j).on hfr hev⟩

section
variable {P : Program} {tv : Tv} {N n0 : Nat} {σ : St} {Q : Kn (Exit → St → Prop)}
theorem wT_seq {a b : LC} (h : wT P N n0 (L := ⟨a⟩) σ (Q := ⟨thenT P N n0 b Q.go⟩)) : wT P N n0 (L := ⟨.seq a b⟩) σ (Q := Q) := by
  unfold wT at *
  exact T.seq h
@[go_sem] theorem wQ_thenT {b : LC} {q : Exit → St → Prop} : wQ .normal σ (Q := ⟨thenT P N n0 b q⟩) = wT P N n0 (L := ⟨b⟩) σ (Q := ⟨q⟩) := by
  unfold wT wQ
  rfl
@[go_sem] theorem wQ_thenT_ret {b : LC} {q : Exit → St → Prop} : wQ .ret σ (Q := ⟨thenT P N n0 b q⟩) = wQ .ret σ (Q := ⟨q⟩) := by
  unfold wQ
  rfl
@[go_sem] theorem wQ_thenT_exit {b : LC} {q : Exit → St → Prop} {id : Nat} : wQ (.exit id) σ (Q := ⟨thenT P N n0 b q⟩) = wQ (.exit id) σ (Q := ⟨q⟩) := by
  unfold wQ
  rfl
/-- A contract from the logic, without a computed condition at its opening. -/
theorem Gives.of_wT {P : Program} {tv : Tv} (env : Env P tv) {f : Nat} {fn : Func} {L : LC} (hf : P.funcs[f]? = some fn) (hn : (fn.name == "runtime.NumGoroutine") = false)
    (hl : fn.body.bind (light fn.ntmps) = some L) {n : Nat} (hnt : fn.ntmps = n) {rs : List ResultVar} (hrs : fn.results.toList = rs) {args : List PV} (hlen : args.length ≤ n) (own : List Nat) {res : V} {blks : List Blk} (hnd : own.Nodup)
    (h : wT P n 0 (L := ⟨L⟩) ⟨argTm 0 args, [], 0⟩ (Q := ⟨retT P tv own rs res blks⟩)) : Gives P f args res blks := by
  subst hnt hrs
  obtain ⟨code, hb, hl⟩ := Option.bind_eq_some_iff.1 hl
  unfold wT at h
  exact Gives.of_T env hf hn hb hl hlen own hnd h
end

theorem nilRef_ctx {CM : Nat → Prop} {w : World} {γ : Gam} {w' : World} {v : Value} {res : V} (esz : Nat) (hp : PostC CM w γ [] w' v res) :
    Fr ⟨w', γ, fun j => ([] : List Blk)[j]?, CM, fun b => b < 0⟩ ⟨w', γ, fun j => [Blk.sl esz [] false][j]?, CM, fun b => b < 1⟩ ∧
    HRel ⟨w', γ, fun j => [Blk.sl esz [] false][j]?, CM, fun b => b < 1⟩ ∧ Fr (Cx.start w CM) ⟨w', γ, fun j => [Blk.sl esz [] false][j]?, CM, fun b => b < 1⟩ ∧ ∀ b c, γ b ≠ some c := by
  have hγ : ∀ b c, γ b ≠ some c := fun b c h => by have := hp.dom b c h; simp at this
  have hf : Fr ⟨w', γ, fun j => ([] : List Blk)[j]?, CM, fun b => b < 0⟩ ⟨w', γ, fun j => [Blk.sl esz [] false][j]?, CM, fun b => b < 1⟩ :=
    { os := rfl
      tape := rfl
      output := rfl
      size := Nat.le_refl _
      same := fun _ _ _ => rfl
      muts := fun c _ ⟨b, blk, g1, g2, g3⟩ => absurd g3 (hγ b c)
      sz := fun c arr e fr h => ⟨arr, h, rfl⟩
      orig := fun c arr e fr h => .inr ⟨arr, h⟩
      cm := rfl }
  refine ⟨hf, { hp := fun b blk hb => ?_, inj := fun b b' c h => absurd h (hγ b c), lt := fun b c h => absurd h (hγ b c), cm := hp.h.cm }, hp.fr.trans hf, hγ⟩
  have hb : [Blk.sl esz [] false][b]? = some blk := hb
  cases b with
  | zero =>
    simp at hb
    subst hb
    refine ⟨Nat.zero_lt_one, fun cs h => by simp at h, .inl ⟨?_, rfl⟩⟩
    cases h : γ 0 with
    | none => exact h
    | some c => exact absurd h (hγ 0 c)
  | succ b => simp at hb

/-- A nil slice that is returned stands for one of the caller's own, without elements. -/
theorem Gives.nilRef {P : Program} {f : Nat} {ps : List PV} (esz : Nat) (h : Gives P f ps (.c (.d .nilSl)) []) : Gives P f ps (.c (.ref 0 0 0 0)) [.sl esz [] false] := by
  obtain ⟨fn, hf, hn, hb, h⟩ := h
  refine ⟨fn, hf, hn, hb, fun CM w vs hCM hps => (h CM w vs hCM hps).mono ?_⟩
  rintro en w' ⟨v, γ, rfl, hp⟩
  obtain ⟨k1, k2, k3, k4⟩ := nilRef_ctx esz hp
  refine ⟨v, γ, rfl, { h := k2, v := ?_, fr := k3, new := hp.new, dom := fun b c h => absurd h (k4 b c) }⟩
  have := hp.v.nilSl_inv
  subst this
  exact .c _ _ (.refNil 0 esz false rfl Nat.zero_lt_one)

/-- The same of a cell. -/
theorem Gives.nilRefAgg {P : Program} {f : Nat} {ps : List PV} {cs : List C} (esz j : Nat) (hj : cs[j]? = some (.d .nilSl)) (h : Gives P f ps (.agg cs) []) :
    Gives P f ps (.agg (cs.set j (.ref 0 0 0 0))) [.sl esz [] false] := by
  obtain ⟨fn, hf, hn, hb, h⟩ := h
  refine ⟨fn, hf, hn, hb, fun CM w vs hCM hps => (h CM w vs hCM hps).mono ?_⟩
  rintro en w' ⟨v, γ, rfl, hp⟩
  obtain ⟨k1, k2, k3, k4⟩ := nilRef_ctx esz hp
  refine ⟨v, γ, rfl, { h := k2, v := ?_, fr := k3, new := hp.new, dom := fun b c h => absurd h (k4 b c) }⟩
  have hv := hp.v
  cases hv with
  | agg arr _ hsz hr =>
    refine .agg arr _ (by simpa using hsz) fun k y hk => ?_
    rw [List.getElem?_set] at hk
    split at hk
    · rename_i e
      subst e
      split at hk
      · cases hk
        have := (VRel.c _ _ (hr j _ hj)).nilSl_inv
        rw [this]
        exact .refNil 0 esz false rfl Nat.zero_lt_one
      · simp at hk
    · exact (hr k y hk).on k1 ⟨fun b hb => by have hb : b < 0 := hb; omega, fun b hb => by have hb : b < 0 := hb; omega⟩
end Go.Vs

/- The walk's rules that the library itself has. -/
namespace Go.Vs
attribute [go_sem] List.length_cons List.length_nil List.map_cons List.map_nil List.reverse_cons List.reverse_nil List.nil_append List.cons_append Bool.false_eq_true Nat.zero_le List.flatten_nil List.flatten_cons true_and and_true and_self List.append_nil Nat.zero_add Nat.add_zero List.contains_nil Nat.le_refl List.take_zero List.take_succ_cons List.drop_zero List.drop_succ_cons List.take_length List.take_nil List.drop_nil Option.map_some Option.map_none List.getElem?_cons_zero List.getElem?_cons_succ List.getElem?_nil Option.some.injEq Int.toNat_zero decide_true decide_false Bool.not_true Bool.not_false beq_self_eq_true List.mapM_cons List.mapM_nil wrap64 wrap8 Int.cast_ofNat_Int Int.natCast_eq_zero decide_eq_true_eq Bool.or_false Bool.or_true Bool.or_self Bool.false_or Bool.true_or Option.bind_eq_bind Option.bind_some Option.pure_def Bool.and_self Bool.and_true Bool.true_and Bool.and_false Bool.false_and
end Go.Vs

/- Deep calls that hand over slices of their own; a block moved to another name. -/
namespace Go.Vs

/-- The end of a function that is called deep and hands over blocks. -/
def retK (P : Program) (tv : Tv) (n0 : Nat) (own : List Nat) (rs : List ResultVar) (Q : V → Hp → Nat → Prop) : Exit → St → Prop
  | .normal, σ | .ret, σ => (resP tv own (getV σ.tm) rs).vc P σ.hp fun v hp _ => ∃ res hp' nx', VLe v res ∧ Wk n0 ⟨[(0, res)], hp, σ.nx⟩ ⟨[(0, res)], hp', nx'⟩ ∧ Q res hp' nx'
  | _, _ => False

theorem VRels.oneK {x : Cx} {vs : List Value} {ys : List V} (hv : VRels x vs ys) : VRel x (oneR vs) (oneV ys) := by
  match vs, ys, hv with
  | [_], [y], .cons hv .nil => exact hv
  | [], [], .nil => exact .tup #[] [] rfl fun j y hj => by simp at hj
  | v1 :: v2 :: vs, y1 :: y2 :: ys, hv =>
    obtain ⟨h1, h2⟩ := hv.get
    refine .tup _ _ (by simpa using h1) fun j y hj => ?_
    have := h2 j y hj
    simpa [Array.getD_eq_getD_getElem?, List.getD_eq_getElem?_getD] using this

theorem Deep.of_TK {P : Program} {tv : Tv} (env : Env P tv) {f : Nat} {fn : Func} {code : Code} {L : LC} (hf : P.funcs[f]? = some fn) (hn : (fn.name == "runtime.NumGoroutine") = false)
    (hb : fn.body = some code) (hl : light fn.ntmps code = some L) {args : List V} (hlen : args.length ≤ fn.ntmps) {hp : Hp} {nx : Nat} (own : List Nat) {Q : V → Hp → Nat → Prop}
    (h : T P fn.ntmps nx ⟨argTmV 0 args, hp, nx⟩ L (retK P tv nx own fn.results.toList Q)) : Deep P f args hp nx Q := by
  refine ⟨fn, hf, hn, by rw [hb]; rfl, fun CM γ w vs hh hvs => ?_⟩
  have hvl : vs.length = args.length := hvs.length
  have hs0 : SRel ((St.mk (argTmV 0 args) hp nx).cx w γ CM) (getV (argTmV 0 args)) { tmps := vs.toArray ++ Array.replicate (fn.ntmps - vs.toArray.size) undef, defers := [] } :=
    { hp := hh.hp
      inj := hh.inj
      lt := hh.lt
      cm := hh.cm
      tm := fun t => by
        have := argTmV_rel hvs 0 t (List.replicate (fn.ntmps - vs.length) undef) (Nat.zero_le _)
        have e : (vs.toArray ++ Array.replicate (fn.ntmps - vs.toArray.size) undef).getD t undef = (vs ++ List.replicate (fn.ntmps - vs.length) undef).getD t undef := by
          have e2 : vs.toArray ++ Array.replicate (fn.ntmps - vs.toArray.size) undef = (vs ++ List.replicate (fn.ntmps - vs.length) undef).toArray := by
            apply Array.ext'
            simp
          rw [e2]
          simp [Array.getD_eq_getD_getElem?, List.getD_eq_getElem?_getD]
        rw [Nat.sub_zero] at this
        exact e ▸ this
      defers := rfl }
  refine calls_of_wp hf hb (wp_mono (h (Nat.le_refl _) code hl CM _ _ w ?_ hs0) fun e a' w' hp => ?_)
  · simp
    omega
  obtain ⟨σ', γ', hq, hn', hsz, hs, hfr, hev⟩ := hp
  have key : ((resP tv own (getV σ'.tm) fn.results.toList).vc P σ'.hp fun v hp _ => ∃ res hp' nx', VLe v res ∧ Wk nx ⟨[(0, res)], hp, σ'.nx⟩ ⟨[(0, res)], hp', nx'⟩ ∧ Q res hp' nx') →
      a'.defers = [] ∧ ∃ v, (results fn a'.tmps).run P w' = .ok v w' ∧ ∃ v' γ' res hp' nx', Ending.returned v = .returned v' ∧ Q res hp' nx' ∧ nx ≤ nx' ∧
        HRel ((St.mk [] hp' nx').cx w' γ' CM) ∧ VRel ((St.mk [] hp' nx').cx w' γ' CM) v' res ∧ Fr ((St.mk [] hp nx).cx w γ CM) ((St.mk [] hp' nx').cx w' γ' CM) ∧
        Ev (fun b => b < nx) ((St.mk [] hp nx).cx w γ CM) ((St.mk [] hp' nx').cx w' γ' CM) := by
    intro hq
    obtain ⟨v, hp1, fp, hx, res, hp', nx', hle, hwk, hQ⟩ := Prog.vc_exec _ hq
    obtain ⟨ys, vs', fp1, hx, hvs, hrun⟩ := resL_sim env.tv hs fn.results.toList hx
    obtain ⟨ds, hp2, fp2, hx, hh2, hf2, he2, hv2, hg2, _⟩ := keepVs_sim hs.toHRel hvs hx
    obtain ⟨rfl, rfl, _⟩ := hx
    refine ⟨hs.defers, _, run_results hrun, oneR vs', ?_⟩
    have hs2 : SRel ((St.mk [(0, res)] hp1 σ'.nx).cx w' γ' CM) (getV [(0, res)]) { tmps := #[oneR vs'], defers := [] } :=
      { hp := hh2.hp
        inj := hh2.inj
        lt := hh2.lt
        cm := hh2.cm
        tm := fun t => by
          cases t with
          | zero => exact hle.on hv2.oneK
          | succ t =>
            have : getV [(0, res)] (t + 1) = .junk := rfl
            rw [this]
            exact .junk _
        defers := rfl }
    obtain ⟨g1, g2⟩ := hwk hn'
    obtain ⟨γ2, k1, k2, k3⟩ := g2 CM γ' _ w' hs2
    refine ⟨γ2, res, hp', nx', rfl, hQ, g1, k1.toHRel, k1.tm 0, (hfr.trans hf2).trans k2, (hev.trans (he2.sub fun b hb => Nat.lt_of_lt_of_le hb hn')).trans k3⟩
  cases e with
  | normal => exact key hq
  | ret => exact key hq
  | _ => exact hq.elim

section
variable {P : Program} {tv : Tv} {N n0 : Nat} {tm : Tm} {hp : Hp} {nx : Nat}
@[go_sem] theorem wQ_retK {n1 : Nat} {own : List Nat} {rs : List ResultVar} {q : V → Hp → Nat → Prop} : wQ .normal ⟨tm, hp, nx⟩ (Q := ⟨retK P tv n1 own rs q⟩) =
    wvc P (resP tv own (getV tm) rs) hp (K := ⟨fun v hp' _ => wEnd n1 nx v hp' (Q := ⟨q⟩)⟩) := by
  unfold wQ wvc wEnd
  rfl
@[go_sem] theorem wQ_retK_ret {n1 : Nat} {own : List Nat} {rs : List ResultVar} {q : V → Hp → Nat → Prop} : wQ .ret ⟨tm, hp, nx⟩ (Q := ⟨retK P tv n1 own rs q⟩) =
    wvc P (resP tv own (getV tm) rs) hp (K := ⟨fun v hp' _ => wEnd n1 nx v hp' (Q := ⟨q⟩)⟩) := by
  unfold wQ wvc wEnd
  rfl
theorem Deep.of_wTK {P : Program} {tv : Tv} (env : Env P tv) {f : Nat} {fn : Func} {L : LC} (hf : P.funcs[f]? = some fn) (hn : (fn.name == "runtime.NumGoroutine") = false)
    (hl : fn.body.bind (light fn.ntmps) = some L) {n : Nat} (hnt : fn.ntmps = n) {rs : List ResultVar} (hrs : fn.results.toList = rs) {args : List V} (hlen : args.length ≤ n) {hp : Hp} {nx : Nat} (own : List Nat) {Q : V → Hp → Nat → Prop}
    (h : wT P n nx (L := ⟨L⟩) ⟨argTmV 0 args, hp, nx⟩ (Q := ⟨retK P tv nx own rs Q⟩)) : Deep P f args hp nx Q := by
  subst hnt hrs
  obtain ⟨code, hb, hl⟩ := Option.bind_eq_some_iff.1 hl
  unfold wT at h
  exact Deep.of_TK env hf hn hb hl hlen own h
end

/-! ### A block moved to another name -/

mutual
def C.not (n : Nat) : C → Prop
  | .d _ => True
  | .cd _ _ => True
  | .ref b _ _ _ => b ≠ n
  | .bref b _ _ _ => b ≠ n
  | .ptr b _ => b ≠ n
  | .eptr b _ _ _ => b ≠ n
  | .mref b => b ≠ n
  | .fn _ cap => C.notL n cap
  | .junk => True
def C.notL (n : Nat) : List C → Prop
  | [] => True
  | c :: cs => c.not n ∧ C.notL n cs
end
mutual
def V.not (n : Nat) : V → Prop
  | .c x => x.not n
  | .agg cs => C.notL n cs
  | .tup vs => V.notL n vs
  | .junk => True
def V.notL (n : Nat) : List V → Prop
  | [] => True
  | v :: vs => v.not n ∧ V.notL n vs
end
def Blk.not (n : Nat) : Blk → Prop
  | .box cs => C.notL n cs
  | _ => True
theorem C.notL_get {n : Nat} : ∀ {cs : List C}, C.notL n cs → ∀ {j : Nat} {y : C}, cs[j]? = some y → y.not n
  | [], _, j, y, h => by simp at h
  | c :: cs, hb, j, y, h => by
    obtain ⟨h1, h2⟩ := hb
    cases j with
    | zero => simp at h; exact h ▸ h1
    | succ j => exact C.notL_get h2 (by simpa using h)
theorem V.notL_get {n : Nat} : ∀ {cs : List V}, V.notL n cs → ∀ {j : Nat} {y : V}, cs[j]? = some y → y.not n
  | [], _, j, y, h => by simp at h
  | z :: zs, hb, j, y, h => by
    obtain ⟨h1, h2⟩ := hb
    cases j with
    | zero => simp at h; exact h ▸ h1
    | succ j => exact V.notL_get h2 (by simpa using h)
def tmNot (n : Nat) : Tm → Prop
  | [] => True
  | (_, v) :: s => v.not n ∧ tmNot n s
def hpNot (n : Nat) : Hp → Prop
  | [] => True
  | (b, x) :: s => (b ≠ n ∧ x.not n) ∧ hpNot n s
theorem tmNot_get {n : Nat} : ∀ {s : Tm}, tmNot n s → ∀ {k : Nat} {v : V}, look s k = some v → v.not n
  | [], _, k, v, h => by simp [look] at h
  | (k', v') :: s, hs, k, v, h => by
    simp only [look] at h
    split at h
    · cases h; exact hs.1
    · exact tmNot_get hs.2 h
theorem hpNot_get {n : Nat} : ∀ {s : Hp}, hpNot n s → ∀ {k : Nat} {v : Blk}, look s k = some v → k ≠ n ∧ v.not n
  | [], _, k, v, h => by simp [look] at h
  | (k', v') :: s, hs, k, v, h => by
    simp only [look] at h
    split at h
    · rename_i e; cases h; exact e ▸ hs.1
    · exact hpNot_get hs.2 h

/-- The same, where one name is not known. -/
abbrev Cx.but (x : Cx) (n : Nat) : Cx := { x with U := fun b => x.U b ∧ b ≠ n }

theorem CRel.but {x : Cx} {n : Nat} {v : Value} {y : C} (hr : CRel x v y) : y.not n → CRel (x.but n) v y := by
  induction hr with
  | d v e h => exact fun _ => .d v e h
  | cd v k e h => exact fun _ => .cd v k e h
  | junk v h => exact fun _ => .junk v h
  | refNil b esz fz h hu => exact fun hb => .refNil b esz fz h ⟨hu, hb⟩
  | ref b c off m cap esz es fz arr e fr h hg hw h1 h2 h3 hu => exact fun hb => .ref b c off m cap esz es fz arr e fr h hg hw h1 h2 h3 ⟨hu, hb⟩
  | refOld b g off m v h1 hu h => exact fun hb => .refOld b g off m v h1 ⟨hu, hb⟩ h
  | bref b c off m cap esz cs h hg h1 h2 hu => exact fun hb => .bref b c off m cap esz cs h hg h1 h2 ⟨hu, hb⟩
  | brefOld b off m esz v h1 hu h => exact fun hb => .brefOld b off m esz v h1 ⟨hu, hb⟩ h
  | ptr b c off cs h hg hu => exact fun hb => .ptr b c off cs h hg ⟨hu, hb⟩
  | ptrOld b off v h1 hu h => exact fun hb => .ptrOld b off v h1 ⟨hu, hb⟩ h
  | eptr b c i off esz es fz h hg hi hu => exact fun hb => .eptr b c i off esz es fz h hg hi ⟨hu, hb⟩
  | eptrOld b g i off v h1 hu h => exact fun hb => .eptrOld b g i off v h1 ⟨hu, hb⟩ h
  | mref b c es h hg hu => exact fun hb => .mref b c es h hg ⟨hu, hb⟩
  | mrefOld b v h1 hu h => exact fun hb => .mrefOld b v h1 ⟨hu, hb⟩ h
  | fn f caps cap hsz _ ih => exact fun hb => .fn f caps cap hsz fun j y hj => ih j y hj (C.notL_get hb hj)
theorem VRel.but {x : Cx} {n : Nat} {v : Value} {y : V} (hr : VRel x v y) : y.not n → VRel (x.but n) v y := by
  induction hr with
  | c v y h => exact fun hb => .c v y (h.but hb)
  | agg arr cs hsz hr => exact fun hb => .agg arr cs hsz fun j y h => (hr j y h).but (C.notL_get hb h)
  | tup arr vs hsz _ ih => exact fun hb => .tup arr vs hsz fun j y h => ih j y h (V.notL_get hb h)
  | junk v => exact fun _ => .junk v
theorem BRel.but {x : Cx} {n b : Nat} {blk : Blk} (hr : BRel x b blk) (hb : blk.not n) : BRel (x.but n) b blk := by
  cases blk with
  | box cs =>
    obtain ⟨c, arr, e, h1, h2, h3, h4⟩ := hr
    exact ⟨c, arr, e, h1, h2, h3, fun j y h => (h4 j y h).but (C.notL_get hb h)⟩
  | sl esz es fz => exact hr
  | mp es => exact hr

theorem Wk.mv {n0 nx b b' c0 g off n esz : Nat} {tm : Tm} {hp : Hp} {cs : List C} {es : List (List D)} {fz : Bool} (j : Nat) (hc : look hp c0 = some (.box cs)) (hj : cs[j]? = some (.ref b g off n))
    (hb : look hp b = some (.sl esz es fz)) (hnb : n0 ≤ b) (hnb' : n0 ≤ b') (hlt : b' < nx) (hbb : b ≠ b') (ht : tmNot b' tm) (hh : hpNot b' hp) :
    Wk n0 ⟨tm, hp, nx⟩ ⟨tm, setL (setL (delL hp b) c0 (.box (cs.set j (.ref b' g off n)))) b' (.sl esz es fz), nx⟩ := fun hn => ⟨hn, fun CM γ a w hs => by
  have hc0 := hpNot_get hh hc
  have hcb : c0 ≠ b := fun e => by rw [e, hb] at hc; cases hc
  let hp' : Hp := setL (setL (delL hp b) c0 (.box (cs.set j (.ref b' g off n)))) b' (.sl esz es fz)
  let γ' : Gam := fun i => if i = b' then γ b else if i = b then none else γ i
  have hpe : look hp' = upd (upd (look (delL hp b)) c0 (.box (cs.set j (.ref b' g off n)))) b' (.sl esz es fz) := by
    show look (setL _ _ _) = _
    rw [look_setL, look_setL]
  have p1 : look hp' b' = some (.sl esz es fz) := by rw [hpe, upd_same]
  have p2 : look hp' c0 = some (.box (cs.set j (.ref b' g off n))) := by rw [hpe, upd_other _ _ hc0.1, upd_same]
  have p3 : look hp' b = none := by rw [hpe, upd_other _ _ hbb, upd_other _ _ (fun e => hcb e.symm), look_delL, if_pos rfl]
  have p4 : ∀ i, i ≠ b' → i ≠ c0 → i ≠ b → look hp' i = look hp i := fun i h1 h2 h3 => by rw [hpe, upd_other _ _ h1, upd_other _ _ h2, look_delL, if_neg h3]
  have p5 : look hp b' = none := by
    cases h : look hp b' with
    | none => rfl
    | some blk => exact absurd rfl (hpNot_get hh h).1
  have g1 : γ' b' = γ b := if_pos rfl
  have g2 : γ' b = none := by show (if b = b' then γ b else if b = b then none else γ b) = none; rw [if_neg hbb, if_pos rfl]
  have g3 : ∀ i, i ≠ b' → i ≠ b → γ' i = γ i := fun i h1 h2 => by show (if i = b' then γ b else if i = b then none else γ i) = γ i; rw [if_neg h1, if_neg h2]
  have hfr : Fr ((St.mk tm hp nx).cx w γ CM) ((St.mk tm hp' nx).cx w γ' CM) :=
    { os := rfl
      tape := rfl
      output := rfl
      size := Nat.le_refl _
      same := fun _ _ _ => rfl
      muts := fun c _ ⟨i, blk, h1, h2, h3⟩ => by
        have h1 : look hp' i = some blk := h1
        have h3 : γ' i = some c := h3
        by_cases e1 : i = b'
        · rw [e1, p1] at h1
          rw [e1, g1] at h3
          exact ⟨b, _, hb, by cases h1; exact h2, h3⟩
        · by_cases e2 : i = b
          · rw [e2, p3] at h1; cases h1
          · rw [g3 i e1 e2] at h3
            by_cases e3 : i = c0
            · exact ⟨c0, _, hc, rfl, e3 ▸ h3⟩
            · rw [p4 i e1 e3 e2] at h1
              exact ⟨i, blk, h1, h2, h3⟩
      sz := fun c arr e fr h => ⟨arr, h, rfl⟩
      orig := fun c arr e fr h => .inr ⟨arr, h⟩
      cm := rfl }
  have hev : Ev (fun i => i < nx ∧ i ≠ b') ((St.mk tm hp nx).cx w γ CM) ((St.mk tm hp' nx).cx w γ' CM) :=
    ⟨fun i hi => hi.1, fun i hi => by
      by_cases e2 : i = b
      · subst e2
        unfold EvB
        rw [show ((St.mk tm hp nx).cx w γ CM).hp i = some (.sl esz es fz) from hb]
        exact .inl p3
      · by_cases e3 : i = c0
        · subst e3
          unfold EvB
          rw [show ((St.mk tm hp nx).cx w γ CM).hp i = some (.box cs) from hc]
          exact .inr ⟨_, p2, by simp, g3 i hi.2 e2⟩
        · exact EvB.same (p4 i hi.2 e3 e2) (g3 i hi.2 e2)⟩
  have hev0 : Ev (((St.mk tm hp nx).cx w γ CM).but b').U (((St.mk tm hp nx).cx w γ CM).but b') ((St.mk tm hp' nx).cx w γ' CM) := hev
  have hfr0 : Fr (((St.mk tm hp nx).cx w γ CM).but b') ((St.mk tm hp' nx).cx w γ' CM) := ⟨hfr.os, hfr.tape, hfr.output, hfr.size, hfr.same, hfr.muts, hfr.sz, hfr.cm, hfr.orig⟩
  refine ⟨γ', { hp := fun i blk hi => ?_, inj := fun i i' c h1 h2 => ?_, lt := fun i c h1 => ?_, cm := hs.cm, tm := fun t => ?_, defers := hs.defers }, hfr, ⟨fun i hi => Nat.lt_of_lt_of_le hi hn, fun i hi => hev.2 i ⟨Nat.lt_of_lt_of_le hi hn, by omega⟩⟩⟩
  · have hi : look hp' i = some blk := hi
    by_cases e1 : i = b'
    · subst e1
      rw [p1] at hi
      cases hi
      obtain ⟨_, h2, h3⟩ := hs.hp b _ hb
      refine ⟨hlt, h2, ?_⟩
      rcases h3 with ⟨h3, h4⟩ | ⟨c, arr, e, h3, h4, h5, h6⟩
      · exact .inl ⟨g1.trans h3, h4⟩
      · exact .inr ⟨c, arr, e, g1.trans h3, h4, h5, fun i cs j y q1 q2 => DRel.on hfr (h6 i cs j y q1 q2)⟩
    · by_cases e2 : i = b
      · rw [e2, p3] at hi; cases hi
      · by_cases e3 : i = c0
        · subst e3
          rw [p2] at hi
          cases hi
          obtain ⟨h1, c, arr, e, h2, h3, h4, h5⟩ := hs.hp i _ hc
          refine ⟨h1, c, arr, e, (g3 i e1 e2).trans h2, h3, by simpa using h4, fun k y hk => ?_⟩
          rw [List.getElem?_set] at hk
          split at hk
          · rename_i ejk
            subst ejk
            split at hk
            · cases hk
              have h5j := h5 j _ hj
              generalize arr.getD j undef = v at h5j
              cases h5j with
              | refNil _ esz' fz' h hu =>
                have h : look hp b = some (.sl esz' [] fz') := h
                rw [hb] at h
                cases h
                exact .refNil b' esz fz p1 hlt
              | ref _ c' _ _ cap esz' es' fz' arr' e' fr' h hg hw q1 q2 q3 hu =>
                have h : look hp b = some (.sl esz' es' fz') := h
                rw [hb] at h
                cases h
                exact .ref b' c' off n cap esz es fz arr' e' fr' p1 (g1.trans hg) hw q1 q2 q3 hlt
              | refOld _ _ _ _ _ hone hu h =>
                refine .refOld b' g off n v hone hlt (.inr ?_)
                rcases h with h | ⟨esz', es', fz', h, hl⟩
                · have h : look hp b = none := h
                  rw [hb] at h; cases h
                · exact ⟨esz, es, fz, p1, by
                    have h : look hp b = some (.sl esz' es' fz') := h
                    rw [hb] at h; cases h; exact hl⟩
            · simp at hk
          · exact ((h5 k y hk).but (C.notL_get hc0.2 hk)).on hfr0 hev0
        · rw [p4 i e1 e3 e2] at hi
          obtain ⟨q1, q2⟩ := hs.hp i blk hi
          exact ⟨q1, (q2.but (hpNot_get hh hi).2).on hfr0 hev0 (g3 i e1 e2) fun _ _ => rfl⟩
  · have h1 : γ' i = some c := h1
    have h2 : γ' i' = some c := h2
    have key : ∀ k, γ' k = some c → k = b' ∧ γ b = some c ∨ k ≠ b' ∧ k ≠ b ∧ γ k = some c := fun k hk => by
      by_cases e1 : k = b'
      · rw [e1, g1] at hk; exact .inl ⟨e1, hk⟩
      · by_cases e2 : k = b
        · rw [e2, g2] at hk; cases hk
        · rw [g3 k e1 e2] at hk; exact .inr ⟨e1, e2, hk⟩
    rcases key i h1 with ⟨a1, a2⟩ | ⟨a1, a2, a3⟩ <;> rcases key i' h2 with ⟨b1, b2⟩ | ⟨b1, b2, b3⟩
    · rw [a1, b1]
    · exact absurd (hs.inj i' b c b3 a2) b2
    · exact absurd (hs.inj i b c a3 b2) a2
    · exact hs.inj i i' c a3 b3
  · have h1 : γ' i = some c := h1
    by_cases e1 : i = b'
    · rw [e1, g1] at h1; exact hs.lt b c h1
    · by_cases e2 : i = b
      · rw [e2, g2] at h1; cases h1
      · rw [g3 i e1 e2] at h1; exact hs.lt i c h1
  · show VRel _ _ (getV tm t)
    have := hs.tm t
    cases hl : look tm t with
    | none =>
      have e : getV tm t = .junk := by simp [getV, hl]
      rw [e]
      exact .junk _
    | some v =>
      have e : getV tm t = v := by simp [getV, hl]
      rw [show getV { tm := tm, hp := hp, nx := nx : St }.tm t = v from e] at this
      rw [e]
      exact (this.but (tmNot_get ht hl)).on hfr0 hev0⟩

attribute [go_sem] tmNot hpNot C.not C.notL V.not V.notL Blk.not
end Go.Vs
