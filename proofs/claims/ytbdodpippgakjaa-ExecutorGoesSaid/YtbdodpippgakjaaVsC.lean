/- This text proves a part of what the claim needs: the walk, and the way from a contract to a statement. No condition. -/
import Derived.Test.YtbdodpippgakjaaVsB
import Derived.Attr
import Derived.IntWalk
import Derived.WalkKit
import Derived.ProofKit
import Derived.OpenShut
import Derived.ShutString
import Derived.ChangeOld
import Derived.Below
import Derived.Carry
set_option linter.unusedSimpArgs false
set_option linter.unusedVariables false

/- The walk: conditions of light code, and the rows by which simp works them out. -/
namespace Go.Vs

/-! ### Conditions of code -/

def vcC (P : Program) (tv : Tv) (N n0 : Nat) : LC → St → (Exit → St → Prop) → Prop
  | .skip, σ, Q => Q .normal σ
  | .ret, σ, Q => Q .ret σ
  | .exit id, σ, Q => Q (.exit id) σ
  | .seq a b, σ, Q => vcC P tv N n0 a σ fun e σ' => match e with
    | .normal => vcC P tv N n0 b σ' Q
    | e => Q e σ'
  | .cond c a b, σ, Q => condT (operV (getV σ.tm) c) (fun t => vcC P tv N n0 a (knowT σ c t) Q) (fun t => vcC P tv N n0 b (knowT σ c t) Q)
  | .block id c, σ, Q => vcC P tv N n0 c σ (blockT id Q)
  | .loop c, σ, Q => T P N n0 σ (.loop c) Q
  | .reg true ops pairs, σ, Q => vcL P tv σ.nx ops 0 σ.tm σ.hp [] (regK true pairs (σ.nx + 4 * ops.length) Q)
  | .reg false ops _, σ, Q => vcO P tv ops σ.tm σ.hp σ.nx fun tm hp nx => Q .normal ⟨tm, hp, nx⟩

theorem condT_mono {v : V} {A B A' B' : Bool → Prop} (h : condT v A B) (ha : ∀ b, A b → A' b) (hb : ∀ b, B b → B' b) : condT v A' B' := by
  unfold condT at *
  split at h
  · rename_i b
    unfold forkK at *
    cases b with
    | true => exact ha true h
    | false => exact hb false h
  · exact h.elim

theorem vcC_sound {P : Program} {tv : Tv} {N n0 : Nat} (env : Env P tv) : ∀ (L : LC) {σ : St} {Q : Exit → St → Prop}, vcC P tv N n0 L σ Q → T P N n0 σ L Q
  | .skip, _, _, h => T.skip h
  | .ret, _, _, h => T.ret h
  | .exit _, _, _, h => T.exit h
  | .seq a b, _, _, h => T.seq (T.mono (vcC_sound env a h) fun e σ hq => by
      cases e with
      | normal => exact vcC_sound env b hq
      | _ => exact hq)
  | .cond c a b, _, _, h => T.cond (condT_mono h (fun _ h => vcC_sound env a h) fun _ h => vcC_sound env b h)
  | .block id c, _, _, h => T.block (vcC_sound env c h)
  | .loop c, _, _, h => h
  | .reg true ops pairs, _, _, h => T.reg env h
  | .reg false ops pairs, _, _, h => T.regO env h

theorem Gives.of_vc {P : Program} {tv : Tv} (env : Env P tv) {f : Nat} {fn : Func} {L : LC} (hf : P.funcs[f]? = some fn) (hn : (fn.name == "runtime.NumGoroutine") = false)
    (hl : fn.body.bind (light fn.ntmps) = some L) {args : List PV} (hlen : args.length ≤ fn.ntmps) (own : List Nat) {res : V} {blks : List Blk} (hnd : own.Nodup)
    (h : vcC P tv fn.ntmps 0 L ⟨argTm 0 args, [], 0⟩ (retT P tv own fn.results.toList res blks)) : Gives P f args res blks := by
  obtain ⟨code, hb, hl⟩ := Option.bind_eq_some_iff.1 hl
  exact Gives.of_T env hf hn hb hl hlen own hnd (vcC_sound env L h)

/-! ### A loop, round by round -/

/-- The rest of a loop, in at most so many rounds. -/
def unT (P : Program) (tv : Tv) (N n0 : Nat) (c : LC) (Q : Exit → St → Prop) : List Unit → St → Prop
  | [], _ => False
  | _ :: us, σ => vcC P tv N n0 c σ fun e σ' => match e with
    | .normal => unT P tv N n0 c Q us σ'
    | e => Q e σ'

theorem T.unroll {P : Program} {tv : Tv} {N n0 : Nat} {c : LC} {Q : Exit → St → Prop} (env : Env P tv) (us : List Unit) {σ : St} (h : unT P tv N n0 c Q us σ) : T P N n0 σ (.loop c) Q := by
  refine T.loop (ι := { p : List Unit × St // unT P tv N n0 c Q p.1 p.2 }) (fun p => p.1.2) (fun p => p.1.1.length) ⟨(us, σ), h⟩ Wk.refl ?_
  rintro ⟨⟨us, σ⟩, h⟩
  cases us with
  | nil => exact h.elim
  | cons u us =>
    refine (vcC_sound env c h).mono fun e σ' hq => ?_
    cases e with
    | normal => exact ⟨⟨(us, σ'), hq⟩, Wk.refl, Nat.lt_succ_self _⟩
    | _ => exact hq

/-! ### Where simp looks, and where it does not -/

/-- What simp leaves alone. -/
class Kn (α : Type) where
  go : α

section words
variable (P : Program) (tv : Tv) (N n0 nx : Nat)
def wvc (p : Prog) (H : Hp) [K : Kn (V → Hp → Fp → Prop)] : Prop := p.vc P H K.go
def wL [ls : Kn (List LOp)] (i : Nat) (tm : Tm) (hp : Hp) (fs : List Fp) [K : Kn (Tm → Hp → List Fp → Prop)] : Prop := vcL P tv nx ls.go i tm hp fs K.go
def wO [ls : Kn (List LOp)] (tm : Tm) (hp : Hp) (nx : Nat) [K : Kn (Tm → Hp → Nat → Prop)] : Prop := vcO P tv ls.go tm hp nx K.go
def wOp (nx : Nat) (ρ : Operand → V) (op : Op) (hp : Hp) [K : Kn (V → Hp → Nat → Prop)] : Prop := opO P tv nx ρ op hp K.go
/-- A call that may write into the caller's blocks. -/
def wDeep (f : Nat) (args : List V) (hp : Hp) (nx : Nat) [K : Kn (V → Hp → Nat → Prop)] : Prop := Deep P f args hp nx K.go
/-- A call that is lent slices which may still be written, or is given them frozen. -/
def wLend (f : Nat) (args : List V) (hp : Hp) (nx : Nat) [K : Kn (V → Hp → Nat → Prop)] : Prop :=
  ((borVs args fun ps br => .call f ps br nx).vc P hp fun v hp' _ => K.go v hp' (nx + 4)) ∨ ((borVs args fun ps br => .call f ps br nx).vc P (frzVs hp args) fun v hp' _ => K.go v hp' (nx + 4))
/-- A call that is lent data which it may not keep. -/
def wCd (f : Nat) (args : List V) (hp : Hp) (nx : Nat) [K : Kn (V → Hp → Nat → Prop)] : Prop :=
  Deep P f args hp nx K.go ∨ ((borVs args fun ps br => .call f ps br nx).vc P hp fun v hp' _ => K.go v hp' (nx + 4))
/-- The end of a function that is called deep. -/
def wEnd (n0 nx : Nat) (v : V) (hp : Hp) [Q : Kn (V → Hp → Nat → Prop)] : Prop := ∃ res hp' nx', VLe v res ∧ Wk n0 ⟨[(0, res)], hp, nx⟩ ⟨[(0, res)], hp', nx'⟩ ∧ Q.go res hp' nx'
/-- A loop, round by round. -/
def wUn (c : LC) (us : List Unit) (σ : St) [Q : Kn (Exit → St → Prop)] : Prop := unT P tv N n0 c Q.go us σ
def wCall (f : Nat) (args : List PV) (br : Bool) (base : Nat) (H : Hp) [K : Kn (V → Hp → Fp → Prop)] : Prop := CallK P f args br base H K.go
def wfork (b : Bool) [K : Kn (Bool → Prop)] : Prop := K.go b
def wforkV (v : V) [S : Kn Prop] [K : Kn (Bool → Prop)] : Prop := forkV v S.go K.go
def wcond (v : V) [A : Kn (Bool → Prop)] [B : Kn (Bool → Prop)] : Prop := condT v A.go B.go
def wC [L : Kn LC] (σ : St) [Q : Kn (Exit → St → Prop)] : Prop := vcC P tv N n0 L.go σ Q.go
def wT [L : Kn LC] (σ : St) [Q : Kn (Exit → St → Prop)] : Prop := T P N n0 σ L.go Q.go
def wQ [Q : Kn (Exit → St → Prop)] (e : Exit) (σ : St) : Prop := Q.go e σ
/-- The end of a region. -/
def wR (draw : Bool) (pairs : List (Nat × Nat)) [Q : Kn (Exit → St → Prop)] (tm : Tm) (hp : Hp) (fs : List Fp) : Prop := regK draw pairs nx Q.go tm hp fs
end words

theorem Gives.of_w {P : Program} {tv : Tv} (env : Env P tv) {f : Nat} {fn : Func} {L : LC} (hf : P.funcs[f]? = some fn) (hn : (fn.name == "runtime.NumGoroutine") = false)
    (hl : fn.body.bind (light fn.ntmps) = some L) {n : Nat} (hnt : fn.ntmps = n) {rs : List ResultVar} (hrs : fn.results.toList = rs) {args : List PV} (hlen : args.length ≤ n) (own : List Nat) {res : V} {blks : List Blk} (hnd : own.Nodup)
    (h : wC P tv n 0 (L := ⟨L⟩) ⟨argTm 0 args, [], 0⟩ (Q := ⟨retT P tv own rs res blks⟩)) : Gives P f args res blks := by
  subst hnt hrs
  exact Gives.of_vc env hf hn hl hlen own hnd h

theorem Deep.of_w {P : Program} {tv : Tv} (env : Env P tv) {f : Nat} {fn : Func} {L : LC} (hf : P.funcs[f]? = some fn) (hn : (fn.name == "runtime.NumGoroutine") = false)
    (hl : fn.body.bind (light fn.ntmps) = some L) {n : Nat} (hnt : fn.ntmps = n) {rs : List ResultVar} (hrs : fn.results.toList = rs) {args : List V} (hlen : args.length ≤ n) {hp : Hp} {nx : Nat} {Q : V → Hp → Nat → Prop}
    (h : wC P tv n nx (L := ⟨L⟩) ⟨argTmV 0 args, hp, nx⟩ (Q := ⟨retD P tv nx rs Q⟩)) : Deep P f args hp nx Q := by
  subst hnt hrs
  obtain ⟨code, hb, hl⟩ := Option.bind_eq_some_iff.1 hl
  exact Deep.of_T env hf hn hb hl hlen (vcC_sound env L h)

/-- Two things to show, the first by looking. -/
def Also (p q : Prop) : Prop := p ∧ q

/-! ### Rows -/

section rows
variable {P : Program} {tv : Tv} {N n0 nx i base : Nat} {l : List LOp} {tm : Tm} {hp : Hp} {fs : List Fp} {K : Kn (Tm → Hp → List Fp → Prop)} {dst : Option Nat} {op : Op}
variable {ρ : Operand → V} {σ : St} {Q : Kn (Exit → St → Prop)} {Kv : Kn (V → Hp → Fp → Prop)} {Kb A B : Kn (Bool → Prop)} {Ko : Kn (V → Hp → Nat → Prop)} {Kt : Kn (Tm → Hp → Nat → Prop)}

@[go_sem] theorem Kn.go_mk {α : Type} {a : α} : (Kn.mk a).go = a := rfl
@[go_sem] theorem Also_true {q : Prop} : Also True q = q := by simp [Also]
theorem Also.mk {p q : Prop} (h1 : p) (h2 : q) : Also p q := ⟨h1, h2⟩
@[go_sem] theorem wR_text {pairs : List (Nat × Nat)} : wR nx false pairs tm hp fs = wQ .normal ⟨tm, hp, nx⟩ := by simp [wR, wQ, regK]
@[go_sem] theorem wR_draw0 : wR nx true [] tm hp fs = wQ .normal ⟨tm, hp, nx⟩ := by simp [wR, wQ, regK, fpsOk]
@[go_sem] theorem wR_draw {p : Nat × Nat} {pairs : List (Nat × Nat)} : wR nx true (p :: pairs) tm hp fs = Also (fpsOk (p :: pairs) fs = true) (wQ .normal ⟨tm, hp, nx⟩) := by simp [wR, wQ, regK, Also]

@[go_sem] theorem wL_nil : wL P tv nx (ls := ⟨[]⟩) i tm hp fs = K.go tm hp fs.reverse := rfl
@[go_sem] theorem wL_op : wL P tv nx (ls := ⟨⟨dst, op, none⟩ :: l⟩) i tm hp fs =
    wvc P (semOp tv (nx + 4 * i) (operV (getV tm)) op) hp (K := ⟨fun v hp' fp => wL P tv nx (ls := ⟨l⟩) (i + 1) (putL dst v tm) hp' (fp :: fs) (K := K)⟩) := rfl
@[go_sem] theorem wL_guard {t : Nat} {want : Bool} : wL P tv nx (ls := ⟨⟨dst, op, some (t, want)⟩ :: l⟩) i tm hp fs (K := K) = wforkV (getV tm t) (S := ⟨wL P tv nx (ls := ⟨l⟩) (i + 1) (putL dst (.tup []) tm) hp (⟨[], []⟩ :: fs) (K := K)⟩) (K := ⟨fun b =>
    if b = want then wvc P (semOp tv (nx + 4 * i) (operV (getV (setL tm t (.c (.d (.bool b)))))) op) hp (K := ⟨fun v hp' fp =>
      wL P tv nx (ls := ⟨l⟩) (i + 1) (putL dst v (setL tm t (.c (.d (.bool b))))) hp' (fp :: fs) (K := K)⟩)
    else wL P tv nx (ls := ⟨l⟩) (i + 1) (putL dst (.tup []) (setL tm t (.c (.d (.bool b))))) hp (⟨[], []⟩ :: fs) (K := K)⟩) := rfl

@[go_sem] theorem wforkV_bool {b : Bool} {S : Kn Prop} : wforkV (.c (.d (.bool b))) (S := S) (K := Kb) = wfork b (K := Kb) := rfl
@[go_sem] theorem wforkV_skip {S : Kn Prop} : wforkV (.tup []) (S := S) (K := Kb) = S.go := rfl
@[go_sem] theorem wcond_bool {b : Bool} : wcond (.c (.d (.bool b))) (A := A) (B := B) = wfork b (K := ⟨fun b => if b then A.go b else B.go b⟩) := rfl
@[go_sem] theorem wfork_true : wfork true (K := Kb) = Kb.go true := rfl
@[go_sem] theorem wfork_false : wfork false (K := Kb) = Kb.go false := rfl
theorem wfork_intro {b : Bool} (h1 : b = true → Kb.go true) (h2 : b = false → Kb.go false) : wfork b (K := Kb) := by
  cases b
  · exact h2 rfl
  · exact h1 rfl

@[go_sem] theorem wvc_ret {u : V} : wvc P (Prog.ret u) hp (K := Kv) = Kv.go u hp ⟨[], []⟩ := rfl
def wGet (P : Program) (b : Nat) (x : Option Blk) (k : Blk → Prog) (H : Hp) [K : Kn (V → Hp → Fp → Prop)] : Prop :=
  match x with
  | some blk => wvc P (k blk) H (K := ⟨fun v H' fp => K.go v H' ⟨b :: fp.rd, fp.wr⟩⟩)
  | none => False
@[go_sem] theorem wvc_get {b : Nat} {k : Blk → Prog} : wvc P (Prog.get b k) hp (K := Kv) = match look hp b with
    | some blk => wvc P (k blk) hp (K := ⟨fun v H' fp => Kv.go v H' ⟨b :: fp.rd, fp.wr⟩⟩)
    | none => False := by rw [wvc, Prog.vc]; cases look hp b <;> rfl
@[go_sem] theorem wvc_put {b : Nat} {x : Blk} {k : Prog} : wvc P (Prog.put b x k) hp (K := Kv) = wvc P k (setL hp b x) (K := ⟨fun v H' fp => Kv.go v H' ⟨fp.rd, b :: fp.wr⟩⟩) := rfl
@[go_sem] theorem wvc_req {p : Prop} {k : Prog} : wvc P (Prog.req p k) hp (K := Kv) = (p ∧ wvc P k hp (K := Kv)) := rfl
@[go_sem] theorem wvc_call {f : Nat} {args : List PV} {br : Bool} : wvc P (Prog.call f args br base) hp (K := Kv) = wCall P f args br base hp (K := Kv) := rfl
@[go_sem] theorem wvc_fail : wvc P Prog.fail hp (K := Kv) = False := rfl

@[go_sem] theorem wC_skip : wC P tv N n0 (L := ⟨.skip⟩) σ (Q := Q) = wQ .normal σ (Q := Q) := rfl
@[go_sem] theorem wC_ret : wC P tv N n0 (L := ⟨.ret⟩) σ (Q := Q) = wQ .ret σ (Q := Q) := rfl
@[go_sem] theorem wC_exit {id : Nat} : wC P tv N n0 (L := ⟨.exit id⟩) σ (Q := Q) = wQ (.exit id) σ (Q := Q) := rfl
/-- What follows. -/
def thenW (P : Program) (tv : Tv) (N n0 : Nat) (b : LC) (Q : Exit → St → Prop) : Exit → St → Prop
  | .normal, σ => vcC P tv N n0 b σ Q
  | e, σ => Q e σ
@[go_sem] theorem wC_seq {a b : LC} : wC P tv N n0 (L := ⟨.seq a b⟩) σ (Q := Q) = wC P tv N n0 (L := ⟨a⟩) σ (Q := ⟨thenW P tv N n0 b Q.go⟩) := by
  have : (fun e σ' => match e with
    | .normal => vcC P tv N n0 b σ' Q.go
    | e => Q.go e σ') = thenW P tv N n0 b Q.go := by
    funext e σ'
    cases e <;> rfl
  show vcC P tv N n0 a σ (fun e σ' => match e with
    | .normal => vcC P tv N n0 b σ' Q.go
    | e => Q.go e σ') = vcC P tv N n0 a σ (thenW P tv N n0 b Q.go)
  rw [this]
@[go_sem] theorem wQ_then {b : LC} {q : Exit → St → Prop} : wQ .normal σ (Q := ⟨thenW P tv N n0 b q⟩) = wC P tv N n0 (L := ⟨b⟩) σ (Q := ⟨q⟩) := rfl
@[go_sem] theorem wQ_then_ret {b : LC} {q : Exit → St → Prop} : wQ .ret σ (Q := ⟨thenW P tv N n0 b q⟩) = wQ .ret σ (Q := ⟨q⟩) := rfl
@[go_sem] theorem wQ_then_exit {b : LC} {q : Exit → St → Prop} {id : Nat} : wQ (.exit id) σ (Q := ⟨thenW P tv N n0 b q⟩) = wQ (.exit id) σ (Q := ⟨q⟩) := rfl
@[go_sem] theorem wQ_block {id : Nat} {q : Exit → St → Prop} : wQ .normal σ (Q := ⟨blockT id q⟩) = wQ .normal σ (Q := ⟨q⟩) := rfl
@[go_sem] theorem wQ_block_ret {id : Nat} {q : Exit → St → Prop} : wQ .ret σ (Q := ⟨blockT id q⟩) = wQ .ret σ (Q := ⟨q⟩) := rfl
@[go_sem] theorem wQ_block_exit {id j : Nat} {q : Exit → St → Prop} : wQ (.exit j) σ (Q := ⟨blockT id q⟩) = if j = id then wQ .normal σ (Q := ⟨q⟩) else wQ (.exit j) σ (Q := ⟨q⟩) := rfl
@[go_sem] theorem wQ_round {ι : Type} {I : ι → St} {μ : ι → Nat} {i : ι} {q : Exit → St → Prop} : wQ .normal σ (Q := ⟨roundT n0 I μ i q⟩) = ∃ j, Wk n0 σ (I j) ∧ μ j < μ i := rfl
@[go_sem] theorem wQ_round_ret {ι : Type} {I : ι → St} {μ : ι → Nat} {i : ι} {q : Exit → St → Prop} : wQ .ret σ (Q := ⟨roundT n0 I μ i q⟩) = wQ .ret σ (Q := ⟨q⟩) := rfl
@[go_sem] theorem wQ_round_exit {ι : Type} {I : ι → St} {μ : ι → Nat} {i : ι} {q : Exit → St → Prop} {id : Nat} : wQ (.exit id) σ (Q := ⟨roundT n0 I μ i q⟩) = wQ (.exit id) σ (Q := ⟨q⟩) := rfl
@[go_sem] theorem wC_cond {c : Operand} {a b : LC} : wC P tv N n0 (L := ⟨.cond c a b⟩) ⟨tm, hp, nx⟩ (Q := Q) =
    wcond (operV (getV tm) c) (A := ⟨fun t => wC P tv N n0 (L := ⟨a⟩) (knowT ⟨tm, hp, nx⟩ c t) (Q := Q)⟩) (B := ⟨fun t => wC P tv N n0 (L := ⟨b⟩) (knowT ⟨tm, hp, nx⟩ c t) (Q := Q)⟩) := rfl
@[go_sem] theorem wC_block {id : Nat} {c : LC} : wC P tv N n0 (L := ⟨.block id c⟩) σ (Q := Q) = wC P tv N n0 (L := ⟨c⟩) σ (Q := ⟨blockT id Q.go⟩) := rfl
@[go_sem] theorem wC_loop {c : LC} : wC P tv N n0 (L := ⟨.loop c⟩) σ (Q := Q) = wT P N n0 (L := ⟨.loop c⟩) σ (Q := Q) := rfl
@[go_sem] theorem wC_reg {ops : List LOp} {pairs : List (Nat × Nat)} : wC P tv N n0 (L := ⟨.reg true ops pairs⟩) ⟨tm, hp, nx⟩ (Q := Q) =
    wL P tv nx (ls := ⟨ops⟩) 0 tm hp [] (K := ⟨fun tm' hp' fs' => wR (nx + 4 * ops.length) true pairs tm' hp' fs' (Q := Q)⟩) := rfl
@[go_sem] theorem wC_regO {ops : List LOp} {pairs : List (Nat × Nat)} : wC P tv N n0 (L := ⟨.reg false ops pairs⟩) ⟨tm, hp, nx⟩ (Q := Q) =
    wO P tv (ls := ⟨ops⟩) tm hp nx (K := ⟨fun tm' hp' nx' => wQ .normal ⟨tm', hp', nx'⟩ (Q := Q)⟩) := rfl
@[go_sem] theorem wOp_move {x : Operand} : wOp P tv nx ρ (.move x) hp (K := Ko) = wvc P (semOp tv nx ρ (.move x)) hp (K := ⟨fun v hp' _ => Ko.go v hp' (nx + 4)⟩) := rfl
@[go_sem] theorem wOp_assign {x : Operand} : wOp P tv nx ρ (.assign x) hp (K := Ko) = wvc P (semOp tv nx ρ (.assign x)) hp (K := ⟨fun v hp' _ => Ko.go v hp' (nx + 4)⟩) := rfl
@[go_sem] theorem wOp_pick {c a b : Operand} : wOp P tv nx ρ (.pick c a b) hp (K := Ko) = wvc P (semOp tv nx ρ (.pick c a b)) hp (K := ⟨fun v hp' _ => Ko.go v hp' (nx + 4)⟩) := rfl
@[go_sem] theorem wOp_alloc {t : Nat} : wOp P tv nx ρ (.alloc t) hp (K := Ko) = wvc P (semOp tv nx ρ (.alloc t)) hp (K := ⟨fun v hp' _ => Ko.go v hp' (nx + 4)⟩) := rfl
@[go_sem] theorem wOp_box {t : Nat} {x : Operand} : wOp P tv nx ρ (.box t x) hp (K := Ko) = wvc P (semOp tv nx ρ (.box t x)) hp (K := ⟨fun v hp' _ => Ko.go v hp' (nx + 4)⟩) := rfl
@[go_sem] theorem wOp_build {t : Nat} {ps : Array (Nat × Operand)} : wOp P tv nx ρ (.build t ps) hp (K := Ko) = wvc P (semOp tv nx ρ (.build t ps)) hp (K := ⟨fun v hp' _ => Ko.go v hp' (nx + 4)⟩) := rfl
@[go_sem] theorem wOp_buildSlice {t n : Nat} {ps : Array (Nat × Operand)} : wOp P tv nx ρ (.buildSlice t n ps) hp (K := Ko) = wvc P (semOp tv nx ρ (.buildSlice t n ps)) hp (K := ⟨fun v hp' _ => Ko.go v hp' (nx + 4)⟩) := rfl
@[go_sem] theorem wOp_load {t : Nat} {a : Operand} : wOp P tv nx ρ (.load t a) hp (K := Ko) = wvc P (semOp tv nx ρ (.load t a)) hp (K := ⟨fun v hp' _ => Ko.go v hp' (nx + 4)⟩) := rfl
@[go_sem] theorem wOp_store {t : Nat} {a x : Operand} : wOp P tv nx ρ (.store t a x) hp (K := Ko) = wvc P (semOp tv nx ρ (.store t a x)) hp (K := ⟨fun v hp' _ => Ko.go v hp' (nx + 4)⟩) := rfl
@[go_sem] theorem wOp_nilCheck {x : Operand} : wOp P tv nx ρ (.nilCheck x) hp (K := Ko) = wvc P (semOp tv nx ρ (.nilCheck x)) hp (K := ⟨fun v hp' _ => Ko.go v hp' (nx + 4)⟩) := rfl
@[go_sem] theorem wOp_binOp {o : BinOp} {t u : Nat} {x y : Operand} : wOp P tv nx ρ (.binOp o t x y u) hp (K := Ko) = wvc P (semOp tv nx ρ (.binOp o t x y u)) hp (K := ⟨fun v hp' _ => Ko.go v hp' (nx + 4)⟩) := rfl
@[go_sem] theorem wOp_unOp {o : UnOp} {t : Nat} {x : Operand} : wOp P tv nx ρ (.unOp o t x) hp (K := Ko) = wvc P (semOp tv nx ρ (.unOp o t x)) hp (K := ⟨fun v hp' _ => Ko.go v hp' (nx + 4)⟩) := rfl
@[go_sem] theorem wOp_convert {s t : Nat} {x : Operand} : wOp P tv nx ρ (.convert s t x) hp (K := Ko) = wvc P (semOp tv nx ρ (.convert s t x)) hp (K := ⟨fun v hp' _ => Ko.go v hp' (nx + 4)⟩) := rfl
@[go_sem] theorem wOp_makeFunc {f : Fn} {a b : Array Operand} : wOp P tv nx ρ (.makeFunc f a b) hp (K := Ko) = wvc P (semOp tv nx ρ (.makeFunc f a b)) hp (K := ⟨fun v hp' _ => Ko.go v hp' (nx + 4)⟩) := rfl
@[go_sem] theorem wOp_makeMap {t : Nat} {r : Option Operand} : wOp P tv nx ρ (.makeMap t r) hp (K := Ko) = wvc P (semOp tv nx ρ (.makeMap t r)) hp (K := ⟨fun v hp' _ => Ko.go v hp' (nx + 4)⟩) := rfl
@[go_sem] theorem wOp_makeSlice {t : Nat} {l c : Operand} : wOp P tv nx ρ (.makeSlice t l c) hp (K := Ko) = wvc P (semOp tv nx ρ (.makeSlice t l c)) hp (K := ⟨fun v hp' _ => Ko.go v hp' (nx + 4)⟩) := rfl
@[go_sem] theorem wOp_slice {t : Nat} {x : Operand} {lo hi mx : Option Operand} : wOp P tv nx ρ (.slice t x lo hi mx) hp (K := Ko) = wvc P (semOp tv nx ρ (.slice t x lo hi mx)) hp (K := ⟨fun v hp' _ => Ko.go v hp' (nx + 4)⟩) := rfl
@[go_sem] theorem wOp_field {t f : Nat} {x : Operand} : wOp P tv nx ρ (.field t x f) hp (K := Ko) = wvc P (semOp tv nx ρ (.field t x f)) hp (K := ⟨fun v hp' _ => Ko.go v hp' (nx + 4)⟩) := rfl
@[go_sem] theorem wOp_fieldAddr {t f : Nat} {x : Operand} : wOp P tv nx ρ (.fieldAddr t x f) hp (K := Ko) = wvc P (semOp tv nx ρ (.fieldAddr t x f)) hp (K := ⟨fun v hp' _ => Ko.go v hp' (nx + 4)⟩) := rfl
@[go_sem] theorem wOp_indexAddr {t : Nat} {x i : Operand} : wOp P tv nx ρ (.indexAddr t x i) hp (K := Ko) = wvc P (semOp tv nx ρ (.indexAddr t x i)) hp (K := ⟨fun v hp' _ => Ko.go v hp' (nx + 4)⟩) := rfl
@[go_sem] theorem wOp_lookup {t : Nat} {m k : Operand} {ok : Bool} : wOp P tv nx ρ (.lookup t m k ok) hp (K := Ko) = wvc P (semOp tv nx ρ (.lookup t m k ok)) hp (K := ⟨fun v hp' _ => Ko.go v hp' (nx + 4)⟩) := rfl
@[go_sem] theorem wOp_mapUpdate {t : Nat} {m k x : Operand} : wOp P tv nx ρ (.mapUpdate t m k x) hp (K := Ko) = wvc P (semOp tv nx ρ (.mapUpdate t m k x)) hp (K := ⟨fun v hp' _ => Ko.go v hp' (nx + 4)⟩) := rfl
@[go_sem] theorem wOp_insert {t : Nat} {m k x : Operand} : wOp P tv nx ρ (.insert t m k x) hp (K := Ko) = wvc P (semOp tv nx ρ (.insert t m k x)) hp (K := ⟨fun v hp' _ => Ko.go v hp' (nx + 4)⟩) := rfl
@[go_sem] theorem wOp_extract {t : Operand} {i : Nat} : wOp P tv nx ρ (.extract t i) hp (K := Ko) = wvc P (semOp tv nx ρ (.extract t i)) hp (K := ⟨fun v hp' _ => Ko.go v hp' (nx + 4)⟩) := rfl
@[go_sem] theorem wOp_builtin {b : Builtin} {args : Array Operand} {ts : Array Nat} : wOp P tv nx ρ (.call { callee := .builtin b, args := args, argTypes := ts }) hp (K := Ko) =
    wvc P (semOp tv nx ρ (.call { callee := .builtin b, args := args, argTypes := ts })) hp (K := ⟨fun v hp' _ => Ko.go v hp' (nx + 4)⟩) := rfl
@[go_sem] theorem wOp_call {f : Operand} {args : Array Operand} {ts : Array Nat} : wOp P tv nx ρ (.call { callee := .value f, args := args, argTypes := ts }) hp (K := Ko) =
    match (ρ f).fn? with
    | some (g, cap) => if anyPtr (args.toList.map ρ ++ cap.map .c) = true then wDeep P g (args.toList.map ρ ++ cap.map .c) hp nx (K := Ko)
      else if anyCd (args.toList.map ρ ++ cap.map .c) = true then wCd P g (args.toList.map ρ ++ cap.map .c) hp nx (K := Ko)
      else if mutVs hp (args.toList.map ρ ++ cap.map .c) = true then wLend P g (args.toList.map ρ ++ cap.map .c) hp nx (K := Ko)
      else wvc P (borVs (args.toList.map ρ ++ cap.map .c) fun ps br => .call g ps br nx) hp (K := ⟨fun v hp' _ => Ko.go v hp' (nx + 4)⟩)
    | none => False := by
  simp only [wOp, opO, callO, wDeep, wCd, wLend, wvc]
  cases (ρ f).fn? <;> rfl
theorem wLend_lend {f : Nat} {args : List V} (h : wvc P (borVs args fun ps br => .call f ps br nx) hp (K := ⟨fun v hp' _ => Ko.go v hp' (nx + 4)⟩)) : wLend P f args hp nx (K := Ko) := .inl h
theorem wCd_lend {f : Nat} {args : List V} (h : wvc P (borVs args fun ps br => .call f ps br nx) hp (K := ⟨fun v hp' _ => Ko.go v hp' (nx + 4)⟩)) : wCd P f args hp nx (K := Ko) := .inr h
theorem wCd_go {f : Nat} {args : List V} {res : V} {hp' : Hp} {nx' : Nat} (h : Deep P f args hp nx fun v h n => v = res ∧ h = hp' ∧ n = nx') (hk : Ko.go res hp' nx') :
    wCd P f args hp nx (K := Ko) := .inl (h.mono (by rintro _ _ _ ⟨rfl, rfl, rfl⟩; exact hk))
theorem wLend_frz {f : Nat} {args : List V} (h : wvc P (borVs args fun ps br => .call f ps br nx) (frzVs hp args) (K := ⟨fun v hp' _ => Ko.go v hp' (nx + 4)⟩)) : wLend P f args hp nx (K := Ko) := .inr h
@[go_sem] theorem wO_nil : wO P tv (ls := ⟨[]⟩) tm hp nx (K := Kt) = Kt.go tm hp nx := rfl
@[go_sem] theorem wO_op : wO P tv (ls := ⟨⟨dst, op, none⟩ :: l⟩) tm hp nx (K := Kt) =
    wOp P tv nx (operV (getV tm)) op hp (K := ⟨fun v hp' nx' => wO P tv (ls := ⟨l⟩) (putL dst v tm) hp' nx' (K := Kt)⟩) := rfl
@[go_sem] theorem wO_guard {t : Nat} {want : Bool} : wO P tv (ls := ⟨⟨dst, op, some (t, want)⟩ :: l⟩) tm hp nx (K := Kt) = wforkV (getV tm t) (S := ⟨wO P tv (ls := ⟨l⟩) (putL dst (.tup []) tm) hp (nx + 4) (K := Kt)⟩) (K := ⟨fun b =>
    if b = want then wOp P tv nx (operV (getV (setL tm t (.c (.d (.bool b)))))) op hp (K := ⟨fun v hp' nx' =>
      wO P tv (ls := ⟨l⟩) (putL dst v (setL tm t (.c (.d (.bool b))))) hp' nx' (K := Kt)⟩)
    else wO P tv (ls := ⟨l⟩) (putL dst (.tup []) (setL tm t (.c (.d (.bool b))))) hp (nx + 4) (K := Kt)⟩) := rfl
theorem wDeep_intro {f : Nat} {args : List V} {Q : V → Hp → Nat → Prop} (h : Deep P f args hp nx Q) (hk : ∀ v hp' nx', Q v hp' nx' → Ko.go v hp' nx') : wDeep P f args hp nx (K := Ko) := h.mono hk
theorem wDeep_go {f : Nat} {args : List V} {res : V} {hp' : Hp} {nx' : Nat} (h : Deep P f args hp nx fun v h n => v = res ∧ h = hp' ∧ n = nx') (hk : Ko.go res hp' nx') :
    wDeep P f args hp nx (K := Ko) := h.mono (by rintro _ _ _ ⟨rfl, rfl, rfl⟩; exact hk)
theorem wEnd_intro {nx1 : Nat} {v res : V} {hp' : Hp} {nx' : Nat} (h1 : VLe v res) (h2 : Wk nx ⟨[(0, res)], hp, nx1⟩ ⟨[(0, res)], hp', nx'⟩) (h3 : Ko.go res hp' nx') : wEnd nx nx1 v hp (Q := Ko) :=
  ⟨res, hp', nx', h1, h2, h3⟩
@[go_sem] theorem wQ_retD {n1 : Nat} {rs : List ResultVar} {q : V → Hp → Nat → Prop} : wQ .normal ⟨tm, hp, nx⟩ (Q := ⟨retD P tv n1 rs q⟩) =
    wvc P (resP tv [] (getV tm) rs) hp (K := ⟨fun v hp' _ => wEnd n1 nx v hp' (Q := ⟨q⟩)⟩) := rfl
@[go_sem] theorem wQ_retD_ret {n1 : Nat} {rs : List ResultVar} {q : V → Hp → Nat → Prop} : wQ .ret ⟨tm, hp, nx⟩ (Q := ⟨retD P tv n1 rs q⟩) =
    wvc P (resP tv [] (getV tm) rs) hp (K := ⟨fun v hp' _ => wEnd n1 nx v hp' (Q := ⟨q⟩)⟩) := rfl
/-- What follows a round. -/
def thenU (P : Program) (tv : Tv) (N n0 : Nat) (c : LC) (us : List Unit) (Q : Exit → St → Prop) : Exit → St → Prop
  | .normal, σ => unT P tv N n0 c Q us σ
  | e, σ => Q e σ
@[go_sem] theorem wUn_cons {c : LC} {u : Unit} {us : List Unit} : wUn P tv N n0 c (u :: us) σ (Q := Q) = wC P tv N n0 (L := ⟨c⟩) σ (Q := ⟨thenU P tv N n0 c us Q.go⟩) := by
  have : (fun e σ' => match e with
    | .normal => unT P tv N n0 c Q.go us σ'
    | e => Q.go e σ') = thenU P tv N n0 c us Q.go := by
    funext e σ'
    cases e <;> rfl
  show vcC P tv N n0 c σ (fun e σ' => match e with
    | .normal => unT P tv N n0 c Q.go us σ'
    | e => Q.go e σ') = vcC P tv N n0 c σ (thenU P tv N n0 c us Q.go)
  rw [this]
@[go_sem] theorem wQ_thenU {c : LC} {us : List Unit} {q : Exit → St → Prop} : wQ .normal σ (Q := ⟨thenU P tv N n0 c us q⟩) = wUn P tv N n0 c us σ (Q := ⟨q⟩) := rfl
@[go_sem] theorem wQ_thenU_ret {c : LC} {us : List Unit} {q : Exit → St → Prop} : wQ .ret σ (Q := ⟨thenU P tv N n0 c us q⟩) = wQ .ret σ (Q := ⟨q⟩) := rfl
@[go_sem] theorem wQ_thenU_exit {c : LC} {us : List Unit} {q : Exit → St → Prop} {id : Nat} : wQ (.exit id) σ (Q := ⟨thenU P tv N n0 c us q⟩) = wQ (.exit id) σ (Q := ⟨q⟩) := rfl
theorem wT_unroll {c : LC} (env : Env P tv) (us : List Unit) (h : wUn P tv N n0 c us σ (Q := Q)) : wT P N n0 (L := ⟨.loop c⟩) σ (Q := Q) := T.unroll env us h
@[go_sem] theorem knowT_tmp {t : Nat} {b : Bool} : knowT ⟨tm, hp, nx⟩ (.tmp t) b = ⟨setL tm t (.c (.d (.bool b))), hp, nx⟩ := rfl
@[go_sem] theorem wQ_retT {own : List Nat} {rs : List ResultVar} {res : V} {blks : List Blk} : wQ .normal ⟨tm, hp, nx⟩ (Q := ⟨retT P tv own rs res blks⟩) =
    wvc P (resP tv own (getV tm) rs) hp (K := ⟨fun v hp _ => VLe (V.at own v) res ∧ ownBlks hp own = some blks⟩) := rfl
@[go_sem] theorem wQ_retT_ret {own : List Nat} {rs : List ResultVar} {res : V} {blks : List Blk} : wQ .ret ⟨tm, hp, nx⟩ (Q := ⟨retT P tv own rs res blks⟩) =
    wvc P (resP tv own (getV tm) rs) hp (K := ⟨fun v hp _ => VLe (V.at own v) res ∧ ownBlks hp own = some blks⟩) := rfl

@[go_sem] theorem VLe_self {v : V} : VLe v v = True := by simp [VLe.refl]
theorem VLe.of_eq {v u : V} (h : v = u) : VLe v u := h ▸ .refl v

theorem wCall_intro {f : Nat} {args : List PV} {br : Bool} {res : V} {blks : List Blk} (h : Gives P f args res blks) (hbr : (!br || (res.flat && blks.isEmpty)) = true)
    (hl : blks.length ≤ 4) (hK : Kv.go (res.shift base) (pushL hp base (blks.map (Blk.shift base))) ⟨[], (List.range blks.length).map (base + ·)⟩) : wCall P f args br base hp (K := Kv) :=
  ⟨res, blks, .inl ⟨h, fun hb => by
    subst hb
    simpa using hbr⟩, hl, hK⟩
theorem wCall_fresh {f : Nat} {args : List PV} {br : Bool} {res : V} {blks : List Blk} (h : GivesF P f args res blks)
    (hl : blks.length ≤ 4) (hK : Kv.go (res.shift base) (pushL hp base (blks.map (Blk.shift base))) ⟨[], (List.range blks.length).map (base + ·)⟩) : wCall P f args br base hp (K := Kv) :=
  ⟨res, blks, .inr h, hl, hK⟩

theorem wT_loop {ι : Type} {c : LC} (I : ι → St) (μ : ι → Nat) (i0 : ι) (h0 : Wk n0 σ (I i0)) (h : ∀ i, wT P N n0 (L := ⟨c⟩) (I i) (Q := ⟨roundT n0 I μ i Q.go⟩)) : wT P N n0 (L := ⟨.loop c⟩) σ (Q := Q) :=
  T.loop I μ i0 h0 h

theorem wT_wk {L : Kn LC} {σ' : St} (hw : Wk n0 σ σ') (h : wT P N n0 (L := L) σ' (Q := Q)) : wT P N n0 (L := L) σ (Q := Q) := T.wk hw h

theorem wT_of {L : Kn LC} (env : Env P tv) (h : wC P tv N n0 (L := L) σ (Q := Q)) : wT P N n0 (L := L) σ (Q := Q) := vcC_sound env _ h

@[go_sem] theorem getV_nil {t : Nat} : getV [] t = .junk := rfl
@[go_sem] theorem getV_cons {k t : Nat} {v : V} {s : Tm} : getV ((k, v) :: s) t = if k = t then v else getV s t := by
  simp only [getV, look]
  split <;> rfl
@[go_sem] theorem setL_nil {α : Type} {j : Nat} {v : α} : setL [] j v = [(j, v)] := rfl
@[go_sem] theorem setL_cons {α : Type} {k j : Nat} {u v : α} {s : List (Nat × α)} : setL ((k, u) :: s) j v = if k = j then (k, v) :: s else (k, u) :: setL s j v := rfl
@[go_sem] theorem look_nil {α : Type} {j : Nat} : look ([] : List (Nat × α)) j = none := rfl
@[go_sem] theorem look_cons' {α : Type} {k j : Nat} {v : α} {s : List (Nat × α)} : look ((k, v) :: s) j = if k = j then some v else look s j := rfl
@[go_sem] theorem putL_some {d : Nat} {v : V} : putL (some d) v tm = setL tm d v := rfl
@[go_sem] theorem putL_none {v : V} : putL none v tm = tm := rfl

@[go_sem] theorem operV_tmp {f : Nat → V} {t : Nat} : operV f (.tmp t) = f t := rfl
@[go_sem] theorem operV_func {f : Nat → V} {g : Nat} : operV f (.func g) = .c (.d (.fn g [])) := rfl
@[go_sem] theorem operV_bool {f : Nat → V} {b : Bool} : operV f (.const (.bool b)) = .c (.d (.bool b)) := rfl
@[go_sem] theorem operV_int {f : Nat → V} {k : IntKind} {n : Int} : operV f (.const (.int k n)) = .c (.d (.int k n)) := rfl
@[go_sem] theorem operV_str {f : Nat → V} {s : ByteArray} : operV f (.const (.string s)) = .c (.d (.str s)) := rfl
@[go_sem] theorem operV_nilSl {f : Nat → V} : operV f (.const (.slice none 0 0)) = .c (.d .nilSl) := rfl
@[go_sem] theorem operV_nilMap {f : Nat → V} : operV f (.const (.map none)) = .c (.d .nilMap) := rfl

@[go_sem] theorem semOp_move {x : Operand} : semOp tv base ρ (.move x) = .ret (ρ x) := rfl
@[go_sem] theorem semOp_assign {x : Operand} : semOp tv base ρ (.assign x) = .ret (ρ x) := rfl
@[go_sem] theorem semOp_pick {c a b : Operand} : semOp tv base ρ (.pick c a b) = match ρ c with
    | .c (.d (.bool t)) => .ret (if t then ρ a else ρ b)
    | _ => .fail := rfl
@[go_sem] theorem semOp_alloc {t : Nat} : semOp tv base ρ (.alloc t) = withTy tv t fun ty => .put base (.box (ty.zero.map .d)) (.ret (.c (.ptr base 0))) := rfl
@[go_sem] theorem semOp_box {t : Nat} {x : Operand} : semOp tv base ρ (.box t x) = match (ρ x).cells? with
    | some cs => .put base (.box cs) (.ret (.c (.ptr base 0)))
    | none => .fail := rfl
@[go_sem] theorem semOp_build {t : Nat} {parts : Array (Nat × Operand)} : semOp tv base ρ (.build t parts) = match (tyOf tv t).sh with
    | .strct fs => retO ((fillC (strctPlace fs) ((tyOf tv t).zero.map .d) (parts.toList.map fun p => (p.1, ρ p.2))).map .agg)
    | .arr _ esz _ => retO ((fillC (fun i => some (i * esz, esz)) ((tyOf tv t).zero.map .d) (parts.toList.map fun p => (p.1, ρ p.2))).map .agg)
    | _ => .fail := rfl
@[go_sem] theorem semOp_buildSlice {t n : Nat} {parts : Array (Nat × Operand)} : semOp tv base ρ (.buildSlice t n parts) = match (tyOf tv t).sh with
    | .slc esz _ ez =>
      if n * esz ≤ 2 ^ 24 then
        match fillC (fun i => some (i * esz, esz)) ((List.replicate n (ez.map C.d)).flatten) (parts.toList.map fun p => (p.1, ρ p.2)) with
        | some cs => .req (ez.length = esz) (settle cs fun ds => .put base (.sl esz (chunks esz n ds) (decide (0 < n))) (.ret (.c (.ref base n 0 n))))
        | none => .fail
      else .fail
    | _ => .fail := rfl
@[go_sem] theorem semOp_load {t : Nat} {a : Operand} : semOp tv base ρ (.load t a) = withTy tv t fun ty => rd (ρ a) ty.size fun cs => retO (ofCells ty.agg cs) := rfl
@[go_sem] theorem semOp_store {t : Nat} {a x : Operand} : semOp tv base ρ (.store t a x) = withTy tv t fun ty => match (ρ x).cells? with
    | some cs => .req (cs.length = ty.size) (wr (ρ a) cs)
    | none => .fail := rfl
@[go_sem] theorem semOp_nilCheck {x : Operand} : semOp tv base ρ (.nilCheck x) = match ρ x with
    | .c (.bref ..) => .fail
    | v => live v (.ret v) := rfl
@[go_sem] theorem semOp_binOp {op : BinOp} {t yt : Nat} {x y : Operand} : semOp tv base ρ (.binOp op t x y yt) = binV op (tyOf tv t) (ρ x) (ρ y) := rfl
@[go_sem] theorem semOp_not {t : Nat} {x : Operand} : semOp tv base ρ (.unOp .not t x) = match ρ x with
    | .c (.d (.bool b)) => .ret (.c (.d (.bool (!b))))
    | _ => .fail := rfl
@[go_sem] theorem semOp_convert {s t : Nat} {x : Operand} : semOp tv base ρ (.convert s t x) = match (tyOf tv s).sh, (tyOf tv t).sh, ρ x with
    | .int _, .int k, .c (.d (.int _ n)) => .ret (.c (.d (.int k (k.wrap n))))
    | _, _, _ => .fail := rfl
@[go_sem] theorem semOp_makeFunc {f : Nat} {cap : Array Operand} : semOp tv base ρ (.makeFunc (.func f) #[] cap) =
    match (cap.toList.map ρ).mapM fun | .c x => some x | _ => none with
      | some cs => .ret (.c (.fn f cs))
      | none => .fail := rfl
@[go_sem] theorem semOp_makeMap {t : Nat} : semOp tv base ρ (.makeMap t none) = match (tyOf tv t).sh with
    | .map .. => .put base (.mp []) (.ret (.c (.mref base)))
    | _ => .fail := rfl
@[go_sem] theorem semOp_makeSlice {t : Nat} {l c : Operand} : semOp tv base ρ (.makeSlice t l c) = match (tyOf tv t).sh, ρ l, ρ c with
    | .slc esz eb ez, .c (.d (.int _ n)), .c (.d (.int _ m)) =>
      .req (m = n ∧ 0 ≤ n ∧ n.toNat * eb ≤ mostBytes ∧ n ≤ 70368744177664 ∧ ez.length = esz) (.put base (.sl esz (List.replicate n.toNat ez) false) (.ret (.c (.ref base n.toNat 0 n.toNat))))
    | _, _, _ => .fail := rfl
@[go_sem] theorem semOp_slice {t : Nat} {x : Operand} {lo hi : Option Operand} : semOp tv base ρ (.slice t x lo hi none) = sliceV (tyOf tv t) (ρ x) (lo.map ρ) (hi.map ρ) := rfl
@[go_sem] theorem semOp_fieldAddr {t f : Nat} {x : Operand} : semOp tv base ρ (.fieldAddr t x f) = fieldAddrV (tyOf tv t) (ρ x) f := rfl
@[go_sem] theorem semOp_field {t f : Nat} {x : Operand} : semOp tv base ρ (.field t x f) = fieldV (tyOf tv t) (ρ x) f := rfl
@[go_sem] theorem semOp_indexAddr {t : Nat} {x i : Operand} : semOp tv base ρ (.indexAddr t x i) = indexV (tyOf tv t) (ρ x) (ρ i) := rfl
@[go_sem] theorem semOp_lookup {t : Nat} {m k : Operand} {ok : Bool} : semOp tv base ρ (.lookup t m k ok) = match (tyOf tv t).sh with
    | .map kk z => lookupV kk z (ρ m) (ρ k) ok
    | _ => .fail := rfl
@[go_sem] theorem semOp_mapUpdate {t : Nat} {m k x : Operand} : semOp tv base ρ (.mapUpdate t m k x) = updV (tyOf tv t).sh (ρ m) (ρ k) (ρ x) := rfl
@[go_sem] theorem semOp_insert {t : Nat} {m k x : Operand} : semOp tv base ρ (.insert t m k x) = updV (tyOf tv t).sh (ρ m) (ρ k) (ρ x) := rfl
@[go_sem] theorem semOp_extract {t : Operand} {i : Nat} : semOp tv base ρ (.extract t i) = match ρ t with
    | .tup vs => retO vs[i]?
    | _ => .fail := rfl
@[go_sem] theorem semOp_builtin {b : Builtin} {args : Array Operand} {ts : Array Nat} : semOp tv base ρ (.call { callee := .builtin b, args := args, argTypes := ts }) =
    builtinV tv base b ts.toList (args.toList.map ρ) := rfl
@[go_sem] theorem semOp_call {f : Operand} {args : Array Operand} {ts : Array Nat} : semOp tv base ρ (.call { callee := .value f, args := args, argTypes := ts }) =
    callV base (ρ f) (args.toList.map ρ) := rfl

end rows

attribute [go_sem] withTy retO rd wr live settle1 settle borL borC borV borVs chunks splice callV V.fn? V.cells? ofCells fillC strctPlace binV intOp eqCells kindsB mpLook mpSet mpDel mpOf lookupV updateV updV deleteV elemsOf
  appendV lenV indexV fieldAddrV fieldV boundV sliceV minV builtinV resP resL keepVs keepV keepL keepC oneV V.at V.at.V.atL C.at nameAt ownBlks argTm PV.toV pushL C.shift C.shiftL V.shift V.shiftL Blk.shift
  V.flat V.flatL C.flat D.flat argTmV ptrArg anyPtr isCd anyCdL cdV anyCd isFlat lentC mutV mutVs frzV frzVs

attribute [irreducible] wLend wCd wUn wO wOp wDeep wEnd wvc wL wCall wfork wforkV wcond wC wT wQ wR Also

end Go.Vs

/- A table of types, row by row. -/
namespace Go.Vs

theorem TvOk.nil {P : Program} : TvOk P [] := fun t ty h => by simp [look] at h

theorem TvOk.cons {P : Program} {t : Nat} {ty : Ty} {tv : Tv} (h : TyOk P t ty) (hs : TvOk P tv) : TvOk P ((t, ty) :: tv) := fun j u hj => by
  simp only [look] at hj
  split at hj
  · rename_i e
    cases hj
    exact e ▸ h
  · exact hs j u hj

end Go.Vs

/- Contracts of empty slices; shapes of data. -/
namespace Go.Vs

theorem PRels.head_cases {w : World} {ok : Nat → Prop} {vs : List Value} {e : Nat} {ps : List PV} (h : PRels w ok vs (.c (.sl e []) :: ps)) :
    PRels w ok vs (.c .nilSl :: ps) ∨ PRels w ok vs (.c (.slE e) :: ps) := by
  cases h with
  | cons hp hps =>
    have hp : DRel w ok _ (.sl e []) := hp
    cases hp with
    | slNil => exact .inl (.cons (p := .c .nilSl) DRel.nilSl hps)
    | slNone a cap => exact .inr (.cons (p := .c (.slE e)) (DRel.slE a cap e) hps)
    | sl c off cap => exact .inr (.cons (p := .c (.slE e)) (DRel.slE _ cap e) hps)

/-- An empty slice: nil, or not. -/
theorem Gives.empty {P : Program} {f e : Nat} {ps : List PV} {res : V} {blks : List Blk} (h1 : Gives P f (.c .nilSl :: ps) res blks) (h2 : Gives P f (.c (.slE e) :: ps) res blks) :
    Gives P f (.c (.sl e []) :: ps) res blks := by
  obtain ⟨fn, hf, hn, hb, h1⟩ := h1
  obtain ⟨fn', hf', _, _, h2⟩ := h2
  rw [hf] at hf'
  cases hf'
  refine ⟨fn, hf, hn, hb, fun CM w vs hCM hps => ?_⟩
  rcases hps.head_cases with h | h
  · exact h1 CM w vs hCM h
  · exact h2 CM w vs hCM h

theorem Gives.nilE {P : Program} {f e : Nat} {ps : List PV} {blks : List Blk} (h : Gives P f ps (.c (.d .nilSl)) blks) : Gives P f ps (.c (.d (.sl e []))) blks := by
  obtain ⟨fn, hf, hn, hb, h⟩ := h
  refine ⟨fn, hf, hn, hb, fun CM w vs hCM hps => (h CM w vs hCM hps).mono ?_⟩
  rintro en w' ⟨v, γ, rfl, hp⟩
  refine ⟨v, γ, rfl, { hp with v := ?_ }⟩
  have := hp.v.nilSl_inv
  subst this
  exact .c _ _ (.d _ _ (.slNil e))

theorem wrap64 {n : Int} (h1 : -9223372036854775808 ≤ n) (h2 : n ≤ 9223372036854775807) : IntKind.i64.wrap n = n := by rw [IntKind.wrap_i64]; omega
theorem wrap8 {n : Int} (h1 : 0 ≤ n) (h2 : n ≤ 255) : IntKind.u8.wrap n = n := by rw [IntKind.wrap_u8]; omega

/-! ### Rows for results up to nil slices -/

theorem CsLe.self : ∀ (as : List C), CsLe as as
  | [] => .nil
  | a :: as => .cons (.refl a) (CsLe.self as)
theorem VsLe.self : ∀ (as : List V), VsLe as as
  | [] => .nil
  | a :: as => .cons (.refl a) (VsLe.self as)
@[go_sem] theorem VLe_tup {as bs : List V} : VLe (.tup as) (.tup bs) = VsLe as bs := by
  apply propext
  constructor
  · intro h
    cases h with
    | refl => exact VsLe.self _
    | tup h => exact h
  · exact .tup
@[go_sem] theorem VLe_agg {as bs : List C} : VLe (.agg as) (.agg bs) = CsLe as bs := by
  apply propext
  constructor
  · intro h
    cases h with
    | refl => exact CsLe.self _
    | agg h => exact h
  · exact .agg
@[go_sem] theorem VLe_c {a b : C} : VLe (.c a) (.c b) = CLe a b := by
  apply propext
  constructor
  · intro h
    cases h with
    | refl => exact .refl _
    | c h => exact h
  · exact .c
@[go_sem] theorem VsLe_nil : VsLe [] [] = True := by simp [VsLe.nil]
@[go_sem] theorem VsLe_cons {a b : V} {as bs : List V} : VsLe (a :: as) (b :: bs) = (VLe a b ∧ VsLe as bs) := by
  apply propext
  constructor
  · intro h
    cases h with
    | cons h1 h2 => exact ⟨h1, h2⟩
  · exact fun h => .cons h.1 h.2
@[go_sem] theorem CsLe_nil : CsLe [] [] = True := by simp [CsLe.nil]
@[go_sem] theorem CsLe_cons {a b : C} {as bs : List C} : CsLe (a :: as) (b :: bs) = (CLe a b ∧ CsLe as bs) := by
  apply propext
  constructor
  · intro h
    cases h with
    | cons h1 h2 => exact ⟨h1, h2⟩
  · exact fun h => .cons h.1 h.2
@[go_sem] theorem CLe_d {a b : D} : CLe (.d a) (.d b) = DLe a b := by
  apply propext
  constructor
  · intro h
    cases h with
    | refl => exact .refl _
    | d h => exact h
  · exact .d
@[go_sem] theorem CLe_self {a : C} : CLe a a = True := by simp [CLe.refl]
@[go_sem] theorem DLe_self {a : D} : DLe a a = True := by simp [DLe.refl]
@[go_sem] theorem DLe_nil {e : Nat} : DLe .nilSl (.sl e []) = True := by simp [DLe.nil]
theorem DLe.of_eq {a b : D} (h : a = b) : DLe a b := h ▸ .refl a

/-- Strings, as the elements of a slice. -/
def strs (l : List ByteArray) : List (List D) := l.map fun s => [.str s]

@[go_sem] theorem strs_length (l : List ByteArray) : (strs l).length = l.length := by simp [strs]
@[go_sem] theorem strs_take (l : List ByteArray) (n : Nat) : (strs l).take n = strs (l.take n) := by simp [strs]
@[go_sem] theorem strs_drop (l : List ByteArray) (n : Nat) : (strs l).drop n = strs (l.drop n) := by simp [strs]
@[go_sem] theorem strs_append (l m : List ByteArray) : strs l ++ strs m = strs (l ++ m) := by simp [strs]
@[go_sem] theorem strs_nil : strs [] = [] := rfl
theorem strs_cons (s : ByteArray) (l : List ByteArray) : strs (s :: l) = [.str s] :: strs l := rfl
@[go_sem] theorem strs_snoc (l : List ByteArray) (s : ByteArray) : strs l ++ [[D.str s]] = strs (l ++ [s]) := by simp [strs]
theorem strs_get (l : List ByteArray) (i : Nat) : (strs l)[i]? = (l[i]?).map fun s => [D.str s] := by simp [strs]

/-- Numbers, as the elements of a slice. -/
def nums (l : List Int) : List (List D) := l.map fun n => [.int .i64 n]

@[go_sem] theorem nums_length (l : List Int) : (nums l).length = l.length := by simp [nums]
@[go_sem] theorem nums_take (l : List Int) (n : Nat) : (nums l).take n = nums (l.take n) := by simp [nums]
@[go_sem] theorem nums_drop (l : List Int) (n : Nat) : (nums l).drop n = nums (l.drop n) := by simp [nums]
@[go_sem] theorem nums_append (l m : List Int) : nums l ++ nums m = nums (l ++ m) := by simp [nums]
theorem nums_nil : nums [] = [] := rfl
theorem nums_cons (s : Int) (l : List Int) : nums (s :: l) = [.int .i64 s] :: nums l := rfl
@[go_sem] theorem nums_snoc (l : List Int) (s : Int) : nums l ++ [[D.int .i64 s]] = nums (l ++ [s]) := by simp [nums]
theorem nums_get (l : List Int) (i : Nat) : (nums l)[i]? = (l[i]?).map fun s => [D.int .i64 s] := by simp [nums]

/-! ### Arguments up to nil slices -/

def DsLe : List D → List D → Prop
  | [], [] => True
  | a :: as, b :: bs => DLe a b ∧ DsLe as bs
  | _, _ => False
def PLe : PV → PV → Prop
  | .c a, .c b => DLe a b
  | .agg as, .agg bs => DsLe as bs
  | _, _ => False
def PsLe : List PV → List PV → Prop
  | [], [] => True
  | a :: as, b :: bs => PLe a b ∧ PsLe as bs
  | _, _ => False

theorem DsLe.get : ∀ {as bs : List D}, DsLe as bs → as.length = bs.length ∧ ∀ (j : Nat) (b : D), bs[j]? = some b → ∃ a, as[j]? = some a ∧ DLe a b
  | [], [], _ => ⟨rfl, fun j b h => by simp at h⟩
  | a :: as, b :: bs, ⟨h1, h2⟩ => by
    obtain ⟨g1, g2⟩ := DsLe.get h2
    refine ⟨by simp [g1], fun j c hj => ?_⟩
    cases j with
    | zero => simp at hj; subst hj; exact ⟨a, rfl, h1⟩
    | succ j => simpa using g2 j c (by simpa using hj)

theorem PLe.on {w : World} {ok : Nat → Prop} {v : Value} : ∀ {a b : PV}, PLe a b → PRel w ok v a → PRel w ok v b
  | .c _, .c _, h, hr => DLe.on h hr
  | .agg as, .agg bs, h, ⟨arr, h1, h2, h3⟩ => by
    obtain ⟨g1, g2⟩ := DsLe.get h
    refine ⟨arr, h1, h2.trans g1, fun j b hj => ?_⟩
    obtain ⟨a, ha, hab⟩ := g2 j b hj
    exact hab.on (h3 j a ha)

theorem PsLe.on {w : World} {ok : Nat → Prop} {vs : List Value} {as : List PV} (hr : PRels w ok vs as) : ∀ {bs : List PV}, PsLe as bs → PRels w ok vs bs := by
  induction hr with
  | nil => intro bs h; cases bs with
    | nil => exact .nil
    | cons _ _ => exact h.elim
  | cons hp _ ih => intro bs h; cases bs with
    | nil => exact h.elim
    | cons b bs => exact .cons (PLe.on h.1 hp) (ih h.2)

theorem Gives.args {P : Program} {f : Nat} {ps ps' : List PV} {res : V} {blks : List Blk} (h : Gives P f ps' res blks) (hle : PsLe ps ps') : Gives P f ps res blks := by
  obtain ⟨fn, hf, hn, hb, h⟩ := h
  exact ⟨fn, hf, hn, hb, fun CM w vs hCM hps => h CM w vs hCM (PsLe.on hps hle)⟩

theorem wCall_le {P : Program} {f base : Nat} {hp : Hp} {Kv : Kn (V → Hp → Fp → Prop)} {args args' : List PV} {br : Bool} {res : V} {blks : List Blk} (h : Gives P f args' res blks) (hle : PsLe args args') (hbr : (!br || (res.flat && blks.isEmpty)) = true)
    (hl : blks.length ≤ 4) (hK : Kv.go (res.shift base) (pushL hp base (blks.map (Blk.shift base))) ⟨[], (List.range blks.length).map (base + ·)⟩) : wCall P f args br base hp (K := Kv) :=
  wCall_intro (h.args hle) hbr hl hK

attribute [go_sem] DsLe PLe PsLe

end Go.Vs

/- Weaker states: what is dropped, what is frozen, a nil slice as a slice of the call's own; cases of a slot. -/
namespace Go.Vs

/-! ### Names below a bound -/

mutual
def C.und (n : Nat) : C → Prop
  | .d _ => True
  | .cd _ _ => True
  | .ref b _ _ _ => b < n
  | .bref b _ _ _ => b < n
  | .ptr b _ => b < n
  | .eptr b _ _ _ => b < n
  | .mref b => b < n
  | .fn _ cap => C.undL n cap
  | .junk => True
def C.undL (n : Nat) : List C → Prop
  | [] => True
  | c :: cs => c.und n ∧ C.undL n cs
end

mutual
def V.und (n : Nat) : V → Prop
  | .c x => x.und n
  | .agg cs => C.undL n cs
  | .tup vs => V.undL n vs
  | .junk => True
def V.undL (n : Nat) : List V → Prop
  | [] => True
  | v :: vs => v.und n ∧ V.undL n vs
end

def Blk.und (n : Nat) : Blk → Prop
  | .box cs => C.undL n cs
  | _ => True

theorem C.undL_get {n : Nat} : ∀ {cs : List C}, C.undL n cs → ∀ {j : Nat} {y : C}, cs[j]? = some y → y.und n
  | [], _, j, y, h => by simp at h
  | c :: cs, hb, j, y, h => by
    obtain ⟨h1, h2⟩ := hb
    cases j with
    | zero => simp at h; exact h ▸ h1
    | succ j => exact C.undL_get h2 (by simpa using h)

theorem V.undL_get {n : Nat} : ∀ {cs : List V}, V.undL n cs → ∀ {j : Nat} {y : V}, cs[j]? = some y → y.und n
  | [], _, j, y, h => by simp at h
  | z :: zs, hb, j, y, h => by
    obtain ⟨h1, h2⟩ := hb
    cases j with
    | zero => simp at h; exact h ▸ h1
    | succ j => exact V.undL_get h2 (by simpa using h)

theorem C.undL_d (n : Nat) : ∀ (ds : List D), C.undL n (ds.map .d)
  | [] => trivial
  | _ :: ds => ⟨trivial, C.undL_d n ds⟩

theorem CRel.lower {x : Cx} {n : Nat} {v : Value} {y : C} (hr : CRel x v y) : y.und n → CRel { x with U := fun b => b < n } v y := by
  induction hr with
  | d v e h => exact fun _ => .d v e h
  | cd v k e h => exact fun _ => .cd v k e h
  | junk v h => exact fun _ => .junk v h
  | refNil b esz fz h _ => exact fun hb => .refNil b esz fz h hb
  | ref b c off m cap esz es fz arr e fr h hg hw h1 h2 h3 _ => exact fun hb => .ref b c off m cap esz es fz arr e fr h hg hw h1 h2 h3 hb
  | refOld b g off m v h1 _ h => exact fun hb => .refOld b g off m v h1 hb h
  | bref b c off m cap esz cs h hg h1 h2 _ => exact fun hb => .bref b c off m cap esz cs h hg h1 h2 hb
  | brefOld b off m esz v h1 _ h => exact fun hb => .brefOld b off m esz v h1 hb h
  | ptr b c off cs h hg _ => exact fun hb => .ptr b c off cs h hg hb
  | ptrOld b off v h1 _ h => exact fun hb => .ptrOld b off v h1 hb h
  | eptr b c i off esz es fz h hg hi _ => exact fun hb => .eptr b c i off esz es fz h hg hi hb
  | eptrOld b g i off v h1 _ h => exact fun hb => .eptrOld b g i off v h1 hb h
  | mref b c es h hg _ => exact fun hb => .mref b c es h hg hb
  | mrefOld b v h1 _ h => exact fun hb => .mrefOld b v h1 hb h
  | fn f caps cap hsz _ ih => exact fun hb => .fn f caps cap hsz fun j y hj => ih j y hj (C.undL_get hb hj)

theorem VRel.lower {x : Cx} {n : Nat} {v : Value} {y : V} (hr : VRel x v y) : y.und n → VRel { x with U := fun b => b < n } v y := by
  induction hr with
  | c v y h => exact fun hb => .c v y (h.lower hb)
  | agg arr cs hsz hr => exact fun hb => .agg arr cs hsz fun j y h => (hr j y h).lower (C.undL_get hb h)
  | tup arr vs hsz _ ih => exact fun hb => .tup arr vs hsz fun j y h => ih j y h (V.undL_get hb h)
  | junk v => exact fun _ => .junk v

theorem BRel.lower {x : Cx} {n b : Nat} {blk : Blk} (hr : BRel x b blk) (hb : blk.und n) : BRel { x with U := fun b => b < n } b blk := by
  cases blk with
  | box cs =>
    obtain ⟨c, arr, e, h1, h2, h3, h4⟩ := hr
    exact ⟨c, arr, e, h1, h2, h3, fun j y h => (h4 j y h).lower (C.undL_get hb h)⟩
  | sl esz es fz => exact hr
  | mp es => exact hr

/-! ### Less is known -/

def subL {α : Type} : List (Nat × α) → List (Nat × α) → Prop
  | [], _ => True
  | (k, v) :: s, l => look l k = some v ∧ subL s l

theorem subL_get {α : Type} : ∀ {s l : List (Nat × α)}, subL s l → ∀ {k : Nat} {v : α}, look s k = some v → look l k = some v
  | [], _, _, k, v, h => by simp [look] at h
  | (k', v') :: s, l, hs, k, v, h => by
    simp only [look] at h
    split at h
    · rename_i e
      cases h
      exact e ▸ hs.1
    · exact subL_get hs.2 h

def tmBelow (n : Nat) : Tm → Prop
  | [] => True
  | (_, v) :: s => v.und n ∧ tmBelow n s

def hpBelow (n : Nat) : Hp → Prop
  | [] => True
  | (b, x) :: s => (b < n ∧ x.und n) ∧ hpBelow n s

theorem tmBelow_get {n : Nat} : ∀ {s : Tm}, tmBelow n s → ∀ {k : Nat} {v : V}, look s k = some v → v.und n
  | [], _, k, v, h => by simp [look] at h
  | (k', v') :: s, hs, k, v, h => by
    simp only [look] at h
    split at h
    · cases h; exact hs.1
    · exact tmBelow_get hs.2 h

theorem hpBelow_get {n : Nat} : ∀ {s : Hp}, hpBelow n s → ∀ {k : Nat} {v : Blk}, look s k = some v → k < n ∧ v.und n
  | [], _, k, v, h => by simp [look] at h
  | (k', v') :: s, hs, k, v, h => by
    simp only [look] at h
    split at h
    · rename_i e; cases h; exact e ▸ hs.1
    · exact hpBelow_get hs.2 h

theorem Wk.sub {n0 nx nx' : Nat} {tm tm' : Tm} {hp hp' : Hp} (h1 : subL tm' tm) (h2 : subL hp' hp) (hn : n0 ≤ nx') (hle : nx' ≤ nx) (h3 : tmBelow nx' tm') (h4 : hpBelow nx' hp') :
    Wk n0 ⟨tm, hp, nx⟩ ⟨tm', hp', nx'⟩ := fun _ => ⟨hn, fun CM γ a w hs => by
  have hfr : Fr ((St.mk tm hp nx).cx w γ CM) ⟨w, γ, look hp', CM, fun b => b < nx⟩ :=
    { os := rfl
      tape := rfl
      output := rfl
      size := Nat.le_refl _
      same := fun _ _ _ => rfl
      muts := fun c _ ⟨b, blk, g1, g2, g3⟩ => ⟨b, blk, subL_get h2 g1, g2, g3⟩
      sz := fun c arr e fr h => ⟨arr, h, rfl⟩
      orig := fun c arr e fr h => .inr ⟨arr, h⟩
      cm := rfl }
  have hev : Ev (fun b => b < nx) ((St.mk tm hp nx).cx w γ CM) ⟨w, γ, look hp', CM, fun b => b < nx⟩ := ⟨fun _ h => h, fun b _ => by
    cases hb : look hp' b with
    | some blk => exact EvB.same (hb.trans (subL_get h2 hb).symm) rfl
    | none =>
      unfold EvB
      split
      · exact hb
      · exact .inl hb
      · exact .inl hb
      · exact .inl hb⟩
  refine ⟨γ, ?_, ?_, ?_⟩
  · refine { hp := fun b blk hb => ?_, inj := hs.inj, lt := hs.lt, cm := hs.cm, tm := fun t => ?_, defers := hs.defers }
    · obtain ⟨g1, g2⟩ := hpBelow_get h4 hb
      refine ⟨g1, ?_⟩
      have := (hs.hp b blk (subL_get h2 hb)).2
      exact (this.on hfr hev rfl fun _ _ => rfl).lower g2
    · unfold getV
      cases ht : look tm' t with
      | none => exact .junk _
      | some v =>
        have := hs.tm t
        unfold getV at this
        rw [subL_get h1 ht] at this
        exact (this.on hfr hev).lower (tmBelow_get h3 ht)
  · exact ⟨rfl, rfl, rfl, Nat.le_refl _, fun _ _ _ => rfl, fun c _ ⟨b, blk, g1, g2, g3⟩ => ⟨b, blk, subL_get h2 g1, g2, g3⟩, fun c arr e fr h => ⟨arr, h, rfl⟩, rfl, fun c arr e fr h => .inr ⟨arr, h⟩⟩
  · refine ⟨fun b hb => Nat.lt_of_lt_of_le hb hn, fun b hb => ?_⟩
    have := hev.2 b (by omega)
    unfold EvB at *
    exact this⟩

/-- Slots and blocks are forgotten. -/
theorem Wk.drop {n0 nx : Nat} {tm tm' : Tm} {hp hp' : Hp} (h1 : subL tm' tm) (h2 : subL hp' hp) : Wk n0 ⟨tm, hp, nx⟩ ⟨tm', hp', nx⟩ := fun hn => ⟨hn, fun CM γ a w hs => by
  have hfr : Fr ((St.mk tm hp nx).cx w γ CM) ((St.mk tm' hp' nx).cx w γ CM) :=
    { os := rfl
      tape := rfl
      output := rfl
      size := Nat.le_refl _
      same := fun _ _ _ => rfl
      muts := fun c _ ⟨b, blk, g1, g2, g3⟩ => ⟨b, blk, subL_get h2 g1, g2, g3⟩
      sz := fun c arr e fr h => ⟨arr, h, rfl⟩
      orig := fun c arr e fr h => .inr ⟨arr, h⟩
      cm := rfl }
  have hev : Ev (fun b => b < nx) ((St.mk tm hp nx).cx w γ CM) ((St.mk tm' hp' nx).cx w γ CM) := ⟨fun _ h => h, fun b _ => by
    cases hb : look hp' b with
    | some blk => exact EvB.same (hb.trans (subL_get h2 hb).symm) rfl
    | none =>
      unfold EvB
      split
      · exact hb
      · exact .inl hb
      · exact .inl hb
      · exact .inl hb⟩
  refine ⟨γ, { hp := fun b blk hb => ?_, inj := hs.inj, lt := hs.lt, cm := hs.cm, tm := fun t => ?_, defers := hs.defers }, hfr, hev.sub fun b hb => Nat.lt_of_lt_of_le hb hn⟩
  · obtain ⟨g1, g2⟩ := hs.hp b blk (subL_get h2 hb)
    exact ⟨g1, g2.on hfr hev rfl fun _ _ => rfl⟩
  · unfold getV
    cases ht : look tm' t with
    | none => exact .junk _
    | some v =>
      have := hs.tm t
      unfold getV at this
      rw [subL_get h1 ht] at this
      exact this.on hfr hev⟩

/-- A nil slice in a slot becomes a slice of the call's own, without elements. -/
theorem Wk.nil {n0 nx t : Nat} {tm : Tm} {hp : Hp} (esz : Nat) (ht : getV tm t = .c (.d .nilSl)) :
    Wk n0 ⟨tm, hp, nx⟩ ⟨setL tm t (.c (.ref nx 0 0 0)), setL hp nx (.sl esz [] false), nx + 1⟩ := fun hn => ⟨Nat.le_succ_of_le hn, fun CM γ a w hs => by
  have hnone : look hp nx = none := by
    cases h : look hp nx with
    | none => rfl
    | some blk =>
      have h1 : nx < nx := (hs.hp nx blk h).1
      omega
  let γ' : Gam := fun j => if j = nx then none else γ j
  have hpe : look (setL hp nx (.sl esz [] false)) = upd (look hp) nx (.sl esz [] false) := look_setL _ _ _
  have hother : ∀ b, b < nx → look (setL hp nx (.sl esz [] false)) b = look hp b ∧ γ' b = γ b := fun b hb => by
    rw [hpe]
    have : b ≠ nx := by omega
    exact ⟨upd_other _ _ this, if_neg this⟩
  have hfr : Fr ((St.mk tm hp nx).cx w γ CM) ((St.mk (setL tm t (.c (.ref nx 0 0 0))) (setL hp nx (.sl esz [] false)) (nx + 1)).cx w γ' CM) :=
    { os := rfl
      tape := rfl
      output := rfl
      size := Nat.le_refl _
      same := fun _ _ _ => rfl
      muts := fun c _ ⟨b, blk, g1, g2, g3⟩ => by
        have g3 : (if b = nx then none else γ b) = some c := g3
        by_cases hb : b = nx
        · simp [hb] at g3
        · rw [if_neg hb] at g3
          have g1 : look (setL hp nx (.sl esz [] false)) b = some blk := g1
          rw [hpe, upd_other _ _ hb] at g1
          exact ⟨b, blk, g1, g2, g3⟩
      sz := fun c arr e fr h => ⟨arr, h, rfl⟩
      orig := fun c arr e fr h => .inr ⟨arr, h⟩
      cm := rfl }
  have hev : Ev (fun b => b < nx) ((St.mk tm hp nx).cx w γ CM) ((St.mk (setL tm t (.c (.ref nx 0 0 0))) (setL hp nx (.sl esz [] false)) (nx + 1)).cx w γ' CM) :=
    ⟨fun b hb => Nat.lt_succ_of_lt hb, fun b hb => EvB.same (hother b hb).1 (hother b hb).2⟩
  refine ⟨γ', { hp := fun b blk hb => ?_, inj := fun b b' c h1 h2 => ?_, lt := fun b c h1 => ?_, cm := hs.cm, tm := fun j => ?_, defers := hs.defers }, hfr, hev.sub fun b hb => Nat.lt_of_lt_of_le hb hn⟩
  · have hb : look (setL hp nx (.sl esz [] false)) b = some blk := hb
    rw [hpe] at hb
    by_cases hbn : b = nx
    · subst hbn
      simp only [upd_same, Option.some.injEq] at hb
      subst hb
      exact ⟨Nat.lt_succ_self _, fun cs h => by simp at h, .inl ⟨if_pos rfl, rfl⟩⟩
    · rw [upd_other _ _ hbn] at hb
      have := hs.hp b blk hb
      exact ⟨Nat.lt_succ_of_lt this.1, this.2.on hfr hev (if_neg hbn) fun _ _ => rfl⟩
  · have h1 : (if b = nx then none else γ b) = some c := h1
    have h2 : (if b' = nx then none else γ b') = some c := h2
    split at h1
    · simp at h1
    · split at h2
      · simp at h2
      · exact hs.inj b b' c h1 h2
  · have h1 : (if b = nx then none else γ b) = some c := h1
    split at h1
    · simp at h1
    · exact hs.lt b c h1
  · show VRel _ _ (getV (setL tm t (.c (.ref nx 0 0 0))) j)
    rw [getV_setL]
    by_cases hj : j = t
    · subst hj
      simp only [if_true]
      have := hs.tm j
      rw [show getV tm j = _ from ht] at this
      rw [this.nilSl_inv]
      exact .c _ _ (.refNil nx esz false (by show look (setL hp nx _) nx = _; rw [hpe, upd_same]) (Nat.lt_succ_self _))
    · dsimp only
      rw [if_neg hj]
      exact (hs.tm j).on hfr hev⟩

/-- A nil slice in a cell of a block becomes a slice of the call's own, without elements. -/
theorem Wk.cellNil {n0 nx b : Nat} {tm : Tm} {hp : Hp} {cs : List C} (j esz : Nat) (hb : look hp b = some (.box cs)) (hj : cs[j]? = some (.d .nilSl)) :
    Wk n0 ⟨tm, hp, nx⟩ ⟨tm, setL (setL hp b (.box (cs.set j (.ref nx 0 0 0)))) nx (.sl esz [] false), nx + 1⟩ := fun hn => ⟨Nat.le_succ_of_le hn, fun CM γ a w hs => by
  have hnone : look hp nx = none := by
    cases h : look hp nx with
    | none => rfl
    | some blk =>
      have h1 : nx < nx := (hs.hp nx blk h).1
      omega
  have hbn : b < nx := (hs.hp b _ hb).1
  let γ' : Gam := fun i => if i = nx then none else γ i
  let hp' : Hp := setL (setL hp b (.box (cs.set j (.ref nx 0 0 0)))) nx (.sl esz [] false)
  have hpe : look hp' = upd (upd (look hp) b (.box (cs.set j (.ref nx 0 0 0)))) nx (.sl esz [] false) := by
    show look (setL _ _ _) = _
    rw [look_setL, look_setL]
  have hpn : look hp' nx = some (.sl esz [] false) := by rw [hpe, upd_same]
  have hpb : look hp' b = some (.box (cs.set j (.ref nx 0 0 0))) := by rw [hpe, upd_other _ _ (by omega), upd_same]
  have hpo : ∀ i, i ≠ b → i ≠ nx → look hp' i = look hp i := fun i h1 h2 => by rw [hpe, upd_other _ _ h2, upd_other _ _ h1]
  have hγ : ∀ i, i ≠ nx → γ' i = γ i := fun i h => if_neg h
  have hγn : γ' nx = none := if_pos rfl
  have hfr : Fr ((St.mk tm hp nx).cx w γ CM) ((St.mk tm hp' (nx + 1)).cx w γ' CM) :=
    { os := rfl
      tape := rfl
      output := rfl
      size := Nat.le_refl _
      same := fun _ _ _ => rfl
      muts := fun c _ ⟨i, blk, g1, g2, g3⟩ => by
        have g3 : γ' i = some c := g3
        have g1 : look hp' i = some blk := g1
        by_cases hi : i = nx
        · rw [hi, hγn] at g3
          simp at g3
        · rw [hγ i hi] at g3
          by_cases hib : i = b
          · exact ⟨b, _, hb, rfl, hib ▸ g3⟩
          · rw [hpo i hib hi] at g1
            exact ⟨i, blk, g1, g2, g3⟩
      sz := fun c arr e fr h => ⟨arr, h, rfl⟩
      orig := fun c arr e fr h => .inr ⟨arr, h⟩
      cm := rfl }
  have hev : Ev (fun i => i < nx) ((St.mk tm hp nx).cx w γ CM) ((St.mk tm hp' (nx + 1)).cx w γ' CM) :=
    ⟨fun i hi => Nat.lt_succ_of_lt hi, fun i hi => by
      by_cases hib : i = b
      · subst hib
        unfold EvB
        rw [show ((St.mk tm hp nx).cx w γ CM).hp i = some (.box cs) from hb]
        exact .inr ⟨_, hpb, by simp, hγ i (by omega)⟩
      · exact EvB.same (hpo i hib (by omega)) (hγ i (by omega))⟩
  refine ⟨γ', { hp := fun i blk hi => ?_, inj := fun i i' c h1 h2 => ?_, lt := fun i c h1 => ?_, cm := hs.cm, tm := fun t => (hs.tm t).on hfr hev, defers := hs.defers }, hfr, hev.sub fun i hi => Nat.lt_of_lt_of_le hi hn⟩
  · have hi : look hp' i = some blk := hi
    by_cases hin : i = nx
    · subst hin
      rw [hpn] at hi
      cases hi
      exact ⟨Nat.lt_succ_self _, fun cs h => by simp at h, .inl ⟨hγn, rfl⟩⟩
    · by_cases hib : i = b
      · subst hib
        rw [hpb] at hi
        cases hi
        obtain ⟨h1, c, arr, e, h2, h3, h4, h5⟩ := hs.hp i _ hb
        refine ⟨Nat.lt_succ_of_lt hbn, c, arr, e, (hγ i hin).trans h2, h3, by simpa using h4, fun k y hk => ?_⟩
        rw [List.getElem?_set] at hk
        split at hk
        · rename_i hkj
          subst hkj
          split at hk
          · cases hk
            have := (VRel.c _ _ (h5 j _ hj)).nilSl_inv
            rw [this]
            exact .refNil nx esz false hpn (Nat.lt_succ_self _)
          · simp at hk
        · exact (h5 k y hk).on hfr hev
      · rw [hpo i hib hin] at hi
        have := hs.hp i blk hi
        exact ⟨Nat.lt_succ_of_lt this.1, this.2.on hfr hev (hγ i hin) fun _ _ => rfl⟩
  · have h1 : γ' i = some c := h1
    have h2 : γ' i' = some c := h2
    have hi : i ≠ nx := fun e => by rw [e, hγn] at h1; simp at h1
    have hi' : i' ≠ nx := fun e => by rw [e, hγn] at h2; simp at h2
    rw [hγ i hi] at h1
    rw [hγ i' hi'] at h2
    exact hs.inj i i' c h1 h2
  · have h1 : γ' i = some c := h1
    have hi : i ≠ nx := fun e => by rw [e, hγn] at h1; simp at h1
    rw [hγ i hi] at h1
    exact hs.lt i c h1⟩

attribute [go_sem] subL tmBelow hpBelow C.und C.undL V.und V.undL Blk.und

end Go.Vs

/- From a reading of the arguments to data; from a contract of a law to the given statement's own words. -/
namespace Go.Vs
open Go.ChangeShapes Go.WideShapes Go.ChangeAt Go.RowKit

/-- What types the arguments have: a struct or an array is a row of its parts. -/
inductive Sg where
  | bool
  | int (k : IntKind)
  | str
  | sl (e : Sg)
  | unit
  | pair (a b : Sg)

def Sg.size : Sg → Nat
  | .unit => 0
  | .pair a b => a.size + b.size
  | _ => 1

def Sg.isAgg : Sg → Bool
  | .unit => true
  | .pair _ _ => true
  | _ => false

def fieldsB (P : Program) (ok : TypeId → Sg → Bool) : List (Nat × TypeId) → Nat → Sg → Bool
  | [], _, .unit => true
  | (o, t) :: l, off, .pair s fs => o == off && P.cellsOf t == s.size && ok t s && fieldsB P ok l (off + s.size) fs
  | _, _, _ => false

def okB (P : Program) : Nat → TypeId → Sg → Bool
  | 0, _, _ => false
  | n + 1, t, sg => match P.underlying t, sg with
    | some .bool, .bool => true
    | some (.int k), .int k' => k == k'
    | some .string, .str => true
    | some (.slice e), .sl s => P.cellsOf e == s.size && decide (0 < s.size) && okB P n e s
    | some (.struct fs), sg => P.cellsOf t == sg.size && sg.isAgg && fieldsB P (okB P n) (fs.toList.map fun f => (f.offset, f.type)) 0 sg
    | some (.array k e), sg => P.cellsOf t == sg.size && sg.isAgg && fieldsB P (okB P n) ((List.range k).map fun i => (i * P.cellsOf e, e)) 0 sg
    | _, _ => false

/-- Data of a type. -/
def Fits : Sg → List D → Prop
  | .bool, ds => ∃ b, ds = [.bool b]
  | .int k, ds => ∃ n, ds = [.int k n] ∧ (Lit.int k n).wf = true
  | .str, ds => ∃ s, ds = [.str s] ∧ s.size ≤ maxLen
  | .sl e, ds => ∃ es, ds = [.sl e.size es] ∧ es.length ≤ maxLen ∧ ∀ x ∈ es, Fits e x
  | .unit, ds => ds = []
  | .pair a b, ds => ∃ xs ys, ds = xs ++ ys ∧ Fits a xs ∧ Fits b ys

theorem Fits.length : ∀ {sg : Sg} {ds : List D}, Fits sg ds → ds.length = sg.size
  | .bool, _, ⟨_, h⟩ => by subst h; rfl
  | .int _, _, ⟨_, h, _⟩ => by subst h; rfl
  | .str, _, ⟨_, h, _⟩ => by subst h; rfl
  | .sl _, _, ⟨_, h, _⟩ => by subst h; rfl
  | .unit, _, h => by have h : _ = [] := h; subst h; rfl
  | .pair a b, _, ⟨xs, ys, h, h1, h2⟩ => by subst h; simp [Fits.length h1, Fits.length h2, Sg.size]

/-- A value of a type. -/
def FitsV (sg : Sg) : PV → Prop
  | .c d => sg.isAgg = false ∧ Fits sg [d]
  | .agg ds => sg.isAgg = true ∧ Fits sg ds

section
variable {H : Type} {enc : TypeId × Value → H} {P : Program} {w : World} {spare : Nat → Bool} {held : Bool}

abbrev anyC : Nat → Prop := fun _ => True

/-- Cells that stand for data. -/
def Row (w : World) (cs : List Value) (ds : List D) : Prop := ds.length = cs.length ∧ ∀ (j : Nat) (d : D), ds[j]? = some d → DRel w anyC (cs.getD j undef) d

theorem Row.one {v : Value} {d : D} (h : DRel w anyC v d) : Row w [v] [d] := ⟨rfl, fun j e hj => by
  cases j with
  | zero => simp at hj; subst hj; exact h
  | succ j => simp at hj⟩

theorem fields_open {n : Nat} (ih : ∀ (t : TypeId) (sg : Sg) (fuel : Nat) (cs : List Value) (x : DataW H × List MemPlace), okB P n t sg = true → DataW.trod enc P w 0 spare held fuel t cs = some x → ∃ ds, Fits sg ds ∧ Row w cs ds) :
    ∀ (l : List (Nat × TypeId)) (off : Nat) (sg : Sg) (cs : List Value) (fuel : Nat), fieldsB P (okB P n) l off sg = true → cs.length = off + sg.size →
      (∀ f ∈ l, ∃ x, DataW.trod enc P w 0 spare held fuel f.2 ((cs.drop f.1).take (P.cellsOf f.2)) = some x) → ∃ ds, Fits sg ds ∧ Row w (cs.drop off) ds
  | [], off, sg, cs, fuel, h, hl, _ => by
    cases sg <;> simp [fieldsB] at h
    simp [Sg.size] at hl
    exact ⟨[], rfl, by simp [hl], fun j d hj => by simp at hj⟩
  | (o, t) :: l, off, sg, cs, fuel, h, hl, hx => by
    cases sg <;> simp only [fieldsB, Bool.false_eq_true] at h
    rename_i s fs
    simp only [Bool.and_eq_true, beq_iff_eq] at h
    obtain ⟨⟨⟨rfl, hc⟩, hok⟩, hrest⟩ := h
    simp only [Sg.size] at hl
    obtain ⟨x, hx0⟩ := hx (o, t) (by simp)
    obtain ⟨xs, hf, hr1, hr2⟩ := ih t s fuel _ x hok hx0
    obtain ⟨ys, hg, hs1, hs2⟩ := fields_open ih l (o + s.size) fs cs fuel hrest (by omega) fun f hf => hx f (List.mem_cons_of_mem _ hf)
    have hxl : xs.length = s.size := Fits.length hf
    refine ⟨xs ++ ys, ⟨xs, ys, rfl, hf, hg⟩, ?_, fun j d hj => ?_⟩
    · simp only [List.length_append, List.length_drop] at *
      omega
    · rw [List.getElem?_append] at hj
      split at hj
      · rename_i hjx
        have := hr2 j d hj
        simp only [List.getD_eq_getElem?_getD, List.getElem?_take, List.getElem?_drop] at this ⊢
        rw [if_pos (by rw [hc]; omega)] at this
        exact this
      · rename_i hjx
        have := hs2 (j - xs.length) d hj
        simp only [List.getD_eq_getElem?_getD, List.getElem?_drop] at this ⊢
        rw [show o + s.size + (j - xs.length) = o + j by omega] at this
        exact this

theorem cell_heap {a : Addr} {v : Value} (h : w.cell? a = some v) : a.spot = none ∧ ∃ arr e fr, w.heap[a.block]? = some (.cells arr e fr) ∧ arr[a.off]? = some v := by
  have hs := World.cell?_spot h
  refine ⟨hs, ?_⟩
  unfold World.cell? at h
  split at h
  · rename_i c e fr hw
    rw [hs] at h
    exact ⟨c, e, fr, hw, by simpa using h⟩
  · simp at h

theorem cells_open : ∀ (n : Nat) (t : TypeId) (sg : Sg) (fuel : Nat) (cs : List Value) (x : DataW H × List MemPlace), okB P n t sg = true → DataW.trod enc P w 0 spare held fuel t cs = some x →
    ∃ ds, Fits sg ds ∧ Row w cs ds
  | 0, t, sg, fuel, cs, x, hok, _ => by simp [okB] at hok
  | n + 1, t, sg, fuel, cs, x, hok, h => by
    have ih := cells_open n
    unfold okB at hok
    split at hok
    · rename_i hu
      obtain ⟨b, rfl, _⟩ := DataW.trod_bool hu h
      exact ⟨_, ⟨b, rfl⟩, Row.one (.bool b)⟩
    · rename_i k k' hu
      have : k = k' := by simpa using hok
      subst this
      obtain ⟨m, rfl, _, hw⟩ := DataW.trod_int hu h
      exact ⟨_, ⟨m, rfl, hw⟩, Row.one (.int k m)⟩
    · rename_i hu
      obtain ⟨s, rfl, _, hs⟩ := DataW.trod_string hu h
      exact ⟨_, ⟨s, rfl, hs⟩, Row.one (.str s)⟩
    · rename_i e s hu
      simp only [Bool.and_eq_true, beq_iff_eq, decide_eq_true_eq] at hok
      obtain ⟨⟨hc, hpos⟩, hok⟩ := hok
      rcases DataW.trod_slice hu h with ⟨rfl, _⟩ | ⟨a, len, cap, elems, rest, m, rfl, rfl, _, _, hlc, hcm, hel, hget, _⟩
      · exact ⟨[.sl s.size []], ⟨[], rfl, Nat.zero_le _, fun x hx => by simp at hx⟩, Row.one (.slNil _)⟩
      · -- each element
        have each : ∀ i, i < len → ∃ ds, Fits s ds ∧ ∀ j, j < s.size → ∃ v, w.cell? (a.add (i * s.size + j)) = some v ∧ ∀ d, ds[j]? = some d → DRel w anyC v d := by
          intro i hi
          have hb := hget i hi
          rw [List.getElem?_eq_getElem (by omega), Option.bind_eq_some_iff] at hb
          obtain ⟨ci, hci, htr⟩ := hb
          obtain ⟨ds, hf, hr1, hr2⟩ := ih e s m ci _ hok htr
          obtain ⟨_, hcl, hcell⟩ := World.cells?_some hci
          refine ⟨ds, hf, fun j hj => ?_⟩
          rw [hc] at hcl hcell
          refine ⟨ci[j], ?_, fun d hd => ?_⟩
          · have := hcell j hj
            rw [List.getElem?_eq_getElem (by omega)] at this
            have e1 : (a.add (i * s.size)).add j = a.add (i * s.size + j) := by
              unfold Addr.add
              repeat' split
              all_goals first
                | omega
                | (simp; omega)
                | simp_all
            rw [← e1]
            exact this
          · have := hr2 j d hd
            simpa [List.getD_eq_getElem?_getD, show j < ci.length by omega] using this
        rcases Nat.eq_zero_or_pos len with h0 | h0
        · subst h0
          exact ⟨[.sl s.size []], ⟨[], rfl, Nat.zero_le _, fun x hx => by simp at hx⟩, Row.one (.slNone a cap _)⟩
        · have hfn : ∃ f : Nat → List D, ∀ i, i < len → Fits s (f i) ∧ ∀ j, j < s.size → ∃ v, w.cell? (a.add (i * s.size + j)) = some v ∧ ∀ d, (f i)[j]? = some d → DRel w anyC v d :=
            ⟨fun i => if hi : i < len then (each i hi).choose else [], fun i hi => by
              simp only [hi, dite_true]
              exact (each i hi).choose_spec⟩
          obtain ⟨f, hf⟩ := hfn
          have hfl : ∀ i, i < len → (f i).length = s.size := fun i hi => Fits.length (hf i hi).1
          obtain ⟨v0, hv0, _⟩ := (hf 0 h0).2 0 hpos
          have e0 : a.add (0 * s.size + 0) = a := by simp [Addr.add]
          rw [e0] at hv0
          obtain ⟨hsp, arr, et, fr, hw, _⟩ := cell_heap hv0
          have hoff : ∀ k, (a.add k) = ⟨a.block, a.off + k, none⟩ := fun k => by
            obtain ⟨b, off, sp⟩ := a
            simp only at hsp
            subst hsp
            exact add_none b off k
          have hcells : ∀ i j, i < len → j < s.size → ∃ v, arr[a.off + (i * s.size + j)]? = some v ∧ ∀ d, (f i)[j]? = some d → DRel w anyC v d := by
            intro i j hi hj
            obtain ⟨v, hv, hd⟩ := (hf i hi).2 j hj
            obtain ⟨_, arr', et', fr', hw', hv'⟩ := cell_heap hv
            rw [hoff] at hw' hv'
            rw [hw] at hw'
            cases hw'
            exact ⟨v, hv', hd⟩
          refine ⟨[.sl s.size ((List.range len).map f)], ⟨_, rfl, by simp; omega, fun x hx => ?_⟩, ?_⟩
          · obtain ⟨i, hi, rfl⟩ := List.mem_map.1 hx
            exact (hf i (List.mem_range.1 hi)).1
          · have hlen : ((List.range len).map f).length = len := by simp
            have key : DRel w anyC (.slice (some ⟨a.block, a.off, none⟩) ((List.range len).map f).length cap) (.sl s.size ((List.range len).map f)) := by
              refine .sl a.block a.off cap s.size _ arr et fr (by omega) trivial hw ?_ ?_ ?_
              · rw [hlen]
                obtain ⟨v, hv, _⟩ := hcells (len - 1) (s.size - 1) (by omega) (by omega)
                have := (Array.getElem?_eq_some_iff.1 hv).1
                have e2 : (len - 1) * s.size + s.size = len * s.size := by
                  rw [← Nat.succ_mul]
                  congr 1
                  omega
                omega
              · intro cs hcs
                obtain ⟨i, hi, rfl⟩ := List.mem_map.1 hcs
                exact hfl i (List.mem_range.1 hi)
              · intro i cs j d hi hj
                rw [List.getElem?_map] at hi
                obtain ⟨i', hi', rfl⟩ := Option.map_eq_some_iff.1 hi
                obtain ⟨hi1, hi2⟩ := List.getElem?_eq_some_iff.1 hi'
                simp at hi1 hi2
                subst hi2
                have hjs : j < s.size := by
                  have := (List.getElem?_eq_some_iff.1 hj).1
                  rw [hfl i hi1] at this
                  exact this
                obtain ⟨v, hv, hd⟩ := hcells i j hi1 hjs
                have : arr.getD (a.off + (i * s.size + j)) undef = v := by simp [Array.getD_eq_getD_getElem?, hv]
                rw [this]
                exact hd d hj
            rw [hlen] at key
            have ea : a = ⟨a.block, a.off, none⟩ := by
              obtain ⟨b, off, sp⟩ := a
              simp only at hsp
              subst hsp
              rfl
            rw [ea]
            exact Row.one key
    · rename_i fs hu
      simp only [Bool.and_eq_true, beq_iff_eq] at hok
      obtain ⟨⟨hc, _⟩, hok⟩ := hok
      obtain ⟨xs, m, rfl, _, hl, hxl, hg⟩ := DataW.trod_struct hu h
      have := fields_open (fun t sg fuel cs x => ih t sg fuel cs x) _ 0 _ cs m hok (by omega) (fun f hf => by
        obtain ⟨fd, hfd, rfl⟩ := List.mem_map.1 hf
        obtain ⟨i, hi⟩ := List.getElem?_of_mem hfd
        have hi' : fs[i]? = some fd := by simpa using hi
        have hlt : i < fs.size := (Array.getElem?_eq_some_iff.1 hi').1
        exact ⟨xs[i], by rw [hg i fd hi', List.getElem?_eq_getElem (by omega)]⟩)
      simpa using this
    · rename_i k e hu
      simp only [Bool.and_eq_true, beq_iff_eq] at hok
      obtain ⟨⟨hc, _⟩, hok⟩ := hok
      have harr : ∃ m, cs.length = P.cellsOf t ∧ ∀ i, i < k → ∃ x, DataW.trod enc P w 0 spare held m e ((cs.drop (i * P.cellsOf e)).take (P.cellsOf e)) = some x := by
        cases fuel with
        | zero => simp [DataW.trod] at h
        | succ m =>
          unfold DataW.trod at h
          rw [hu] at h
          have h : (if cs.length = P.cellsOf t then ((List.range k).mapM fun i => DataW.trod enc P w 0 spare held m e ((cs.drop (i * P.cellsOf e)).take (P.cellsOf e))).map fun xs => (DataW.agg (xs.map (·.1)), xs.flatMap (·.2)) else none) = some x := by
            split at h <;> simp_all
          split at h
          · rename_i hl
            refine ⟨m, hl, fun i hi => ?_⟩
            obtain ⟨xs, hxs, _⟩ := Option.map_eq_some_iff.1 h
            have hlen : xs.length = k := by simpa using mapM_some_length hxs
            have := mapM_some_get hxs i i (by simp [hi])
            rw [this, List.getElem?_eq_getElem (by omega)]
            exact ⟨_, rfl⟩
          · simp at h
      obtain ⟨m, hl, hg⟩ := harr
      have := fields_open (fun t sg fuel cs x => ih t sg fuel cs x) _ 0 _ cs m hok (by omega) (fun f hf => by
        obtain ⟨i, hi, rfl⟩ := List.mem_map.1 hf
        exact hg i (List.mem_range.1 hi))
      simpa using this
    · simp at hok

theorem PRel.of_row {v : Value} {d : D} (h : Row w [v] [d]) : PRel w anyC v (.c d) := by
  have : DRel w anyC (([v] : List Value).getD 0 undef) d := h.2 0 d rfl
  exact this

theorem Value.cells_one {v : Value} (h : One v) : v.cells.toList = [v] := by rw [h.cells]

theorem val_open {n : Nat} {t : TypeId} {sg : Sg} {v : Value} {d : DataW H} {ps : List MemPlace} {base : Nat} (hok : okB P n t sg = true) (hval : Value.okWide P w .any base t v)
    (h : DataW.Trod enc P w 0 spare held t v d ps) : ∃ p : PV, PRel w anyC v p ∧ FitsV sg p := by
  obtain ⟨fuel, hf⟩ := h
  obtain ⟨ds, hfit, hrow⟩ := cells_open n t sg fuel _ _ hok hf
  have one : One v → sg.isAgg = false → ∃ p : PV, PRel w anyC v p ∧ FitsV sg p := fun h1 h2 => by
    rw [Value.cells_one h1] at hrow
    have hl := hrow.1
    match ds, hl with
    | [d], _ => exact ⟨.c d, PRel.of_row hrow, h2, hfit⟩
  cases n with
  | zero => simp [okB] at hok
  | succ n =>
    have hagg : (∃ cs, v = .agg cs ∧ cs.size = P.cellsOf t ∧ Go.Row.okWide P w .any base t cs) → sg.isAgg = true → ∃ p : PV, PRel w anyC v p ∧ FitsV sg p := by
      rintro ⟨cs, rfl, _, _⟩ h2
      refine ⟨.agg ds, ⟨cs, rfl, by simpa [Value.cells] using hrow.1.symm, fun j x hj => ?_⟩, h2, hfit⟩
      have := hrow.2 j x hj
      simpa [Value.cells, List.getD_eq_getElem?_getD, Array.getD_eq_getD_getElem?] using this
    unfold okB at hok
    split at hok
    · rename_i hu
      obtain ⟨b, rfl⟩ := okWide_bool hu hval
      exact one ⟨fun _ => by simp, fun _ => by simp⟩ rfl
    · rename_i k k' hu
      obtain ⟨b, rfl⟩ := okWide_int hu hval
      exact one ⟨fun _ => by simp, fun _ => by simp⟩ rfl
    · rename_i hu
      obtain ⟨b, rfl⟩ := okWide_string hu hval
      exact one ⟨fun _ => by simp, fun _ => by simp⟩ rfl
    · rename_i e s hu
      obtain ⟨a, l, c, rfl⟩ := okWide_slice hu hval
      exact one ⟨fun _ => by simp, fun _ => by simp⟩ rfl
    · rename_i fs hu
      simp only [Bool.and_eq_true, beq_iff_eq] at hok
      have hval : ∃ cs, v = .agg cs ∧ cs.size = P.cellsOf t ∧ Go.Row.okWide P w .any base t cs := by simpa only [Value.okWide, hu] using hval
      exact hagg hval hok.1.2
    · rename_i k e hu
      simp only [Bool.and_eq_true, beq_iff_eq] at hok
      have hval : ∃ cs, v = .agg cs ∧ cs.size = P.cellsOf t ∧ Go.Row.okWide P w .any base t cs := by simpa only [Value.okWide, hu] using hval
      exact hagg hval hok.1.2
    · simp at hok

def FitsAllV : List Sg → List PV → Prop
  | [], [] => True
  | s :: ss, p :: ps => FitsV s p ∧ FitsAllV ss ps
  | _, _ => False

def okAllB (P : Program) (n : Nat) : List TypeId → List Sg → Bool
  | [], [] => true
  | t :: ts, s :: ss => okB P n t s && okAllB P n ts ss
  | _, _ => false

theorem all_open {n : Nat} {base : Nat} : ∀ {ts : List TypeId} {sgs : List Sg} {vs : List Value} {ds : List (DataW H)} {ps : List MemPlace}, okAllB P n ts sgs = true →
    (∀ (j : Nat) (t : TypeId) (v : Value), ts[j]? = some t → vs[j]? = some v → Value.okWide P w .any base t v) → DataW.TrodAll enc P w 0 spare held ts vs ds ps →
    ∃ pvs : List PV, PRels w anyC vs pvs ∧ FitsAllV sgs pvs
  | [], sgs, vs, ds, ps, hok, hval, h => by
    cases sgs with
    | cons _ _ => simp [okAllB] at hok
    | nil =>
      cases vs with
      | nil => exact ⟨[], .nil, trivial⟩
      | cons _ _ => simp [DataW.TrodAll] at h
  | t :: ts, sgs, vs, ds, ps, hok, hval, h => by
    cases sgs with
    | nil => simp [okAllB] at hok
    | cons s ss =>
      simp only [okAllB, Bool.and_eq_true] at hok
      cases vs with
      | nil => simp [DataW.TrodAll] at h
      | cons v vs =>
        cases ds with
        | nil => simp [DataW.TrodAll] at h
        | cons d ds =>
          obtain ⟨p, q, h1, h2, _⟩ := h
          obtain ⟨pv, hp1, hp2⟩ := val_open hok.1 (hval 0 t v rfl rfl) h1
          obtain ⟨pvs, hq1, hq2⟩ := all_open hok.2 (fun j t' v' h1 h2 => hval (j + 1) t' v' (by simpa using h1) (by simpa using h2)) h2
          exact ⟨pv :: pvs, .cons hp1 hq1, hp2, hq2⟩

/-- A contract of a law: it returns true, and leaves what was there. -/
theorem Gives.law {f : Nat} {ps : List PV} {vs : List Value} (h : Gives P f ps (.c (.d (.bool true))) []) (hr : PRels w anyC vs ps) :
    Calls P f vs.toArray w fun e w' => e = .returned (.bool true) ∧ Below w.heap.size w w' := by
  obtain ⟨fn, _, _, _, h⟩ := h
  refine (h (fun _ => False) w vs (fun _ hc => hc.elim) (hr.cm fun _ _ hc => hc)).mono ?_
  rintro e w' ⟨v, γ, rfl, hp⟩
  have hv := hp.v.bool_inv
  subst hv
  refine ⟨rfl, hp.fr.os, hp.fr.tape, hp.fr.output, hp.fr.size, fun k hk => hp.fr.same k hk ?_⟩
  rintro ⟨b, blk, h1, _⟩
  simp [Cx.start] at h1

theorem trodAll_below (hlaid : laidOutB P = true) {W W' : World} (hb : Below W.heap.size W W') : ∀ {ts : List TypeId} {vs : List Value} {ds : List (DataW H)} {ps : List MemPlace},
    (∀ t ∈ ts, P.readableRec t = true ∧ t < P.types.size) → DataW.TrodAll enc P W 0 (fun _ => true) true ts vs ds ps → DataW.TrodAll enc P W' 0 (fun b => decide (b < W.heap.size)) true ts vs ds ps
  | [], vs, ds, ps, _, h => by
    cases vs <;> cases ds <;> simp_all [DataW.TrodAll]
  | t :: ts, vs, ds, ps, hr, h => by
    cases vs with
    | nil => simp [DataW.TrodAll] at h
    | cons v vs =>
      cases ds with
      | nil => simp [DataW.TrodAll] at h
      | cons d ds =>
        obtain ⟨p, q, h1, h2, rfl⟩ := h
        have lt0 : ∀ x ∈ p, x.block < W.heap.size := by obtain ⟨m, hm⟩ := h1; exact DataW.trod_lt m _ _ _ hm
        exact ⟨p, q, Below.trod hlaid (hr t (by simp)).1 (hr t (by simp)).2 h1 hb lt0, trodAll_below hlaid hb (fun t ht => hr t (List.mem_cons_of_mem _ ht)) h2, rfl⟩

theorem trodAll_length : ∀ {ts : List TypeId} {vs : List Value} {ds : List (DataW H)} {ps : List MemPlace} {b : Nat} {sp : Nat → Bool} {hd : Bool}, DataW.TrodAll enc P w b sp hd ts vs ds ps → ds.length = ts.length
  | [], vs, ds, ps, _, _, _, h => by cases vs <;> cases ds <;> simp_all [DataW.TrodAll]
  | t :: ts, vs, ds, ps, _, _, _, h => by
    cases vs with
    | nil => simp [DataW.TrodAll] at h
    | cons v vs =>
      cases ds with
      | nil => simp [DataW.TrodAll] at h
      | cons d ds =>
        obtain ⟨p, q, _, h2, _⟩ := h
        simp [trodAll_length h2]

/-- What the form of a law's statement asks of a call. -/
theorem law_contract {fn : Func} {s : ChangeSpec} {f n : Nat} {sgs : List Sg} {bt : TypeId} (hs : s.vars = []) (hfn : ∀ ds : List (DataW H), ds.length = fn.params.size → s.fn H ds = { results := [.lit (.bool true)], args := ds })
    (hres : fn.resultTypes = #[bt]) (hbt : P.underlying bt = some .bool) (hlaid : laidOutB P = true) (hread : fn.params.toList.all (fun t => P.readableRec t && decide (t < P.types.size)) = true)
    (hok : okAllB P n fn.params.toList sgs = true) (hg : ∀ ps, FitsAllV sgs ps → Gives P f ps (.c (.d (.bool true))) [])
    {W : World} {base : Nat} {args : Array Value} {ds gs : List (DataW H)} {before : List MemPlace}
    (hval : ∀ (j : Nat) t v, fn.params[j]? = some t → args[j]? = some v → Value.okWide P W .any base t v)
    (hW : DataW.Whole enc P fn.params.toList s.vars false W args.toList ds gs before) :
    Calls P f args W fun e W' => ∃ v, e = .returned v ∧ s.post enc P fn false true false false W args v W' := by
  have hW' := hW
  obtain ⟨p, q, hA, hV, rfl, _, _⟩ := hW
  rw [hs] at hV
  obtain ⟨rfl, rfl⟩ := trodVars_none hV
  obtain ⟨pvs, h1, h2⟩ := all_open (n := n) (base := base) hok (fun j t v ht hv => hval j t v (by simpa using ht) (by simpa using hv)) hA
  have hc := (hg pvs h2).law h1
  have ea : args.toList.toArray = args := by simp
  rw [ea] at hc
  refine hc.mono ?_
  rintro e W' ⟨rfl, hb⟩
  have hlen : ds.length = fn.params.size := by simpa using trodAll_length hA
  have hf : s.fn H (ds ++ []) = { results := [.lit (.bool true)], args := ds } := by rw [List.append_nil]; exact hfn ds hlen
  refine ⟨_, rfl, ds, [], p ++ [], [], p, [], hW', ?_, ?_, ?_, hb.frame _, fun h => by cases h⟩
  · rw [hf, hres]
    exact trodAll_mk1 (shut_bool hbt true)
  · rw [hf]
    refine trodAll_below hlaid hb (fun t ht => ?_) hA
    have := List.all_eq_true.1 hread t ht
    simpa using this
  · rw [hf, hs]
    rfl
end

theorem FitsAllV.nil {ps : List PV} (h : FitsAllV [] ps) : ps = [] := by
  cases ps with
  | nil => rfl
  | cons _ _ => exact h.elim
theorem FitsAllV.agg {s : Sg} {ss : List Sg} {ps : List PV} (hs : s.isAgg = true) (h : FitsAllV (s :: ss) ps) : ∃ ds ps', ps = .agg ds :: ps' ∧ Fits s ds ∧ FitsAllV ss ps' := by
  cases ps with
  | nil => exact h.elim
  | cons p ps =>
    obtain ⟨h1, h2⟩ := h
    cases p with
    | agg ds => exact ⟨ds, ps, rfl, h1.2, h2⟩
    | c d => simp [FitsV, hs] at h1
theorem FitsAllV.one {s : Sg} {ss : List Sg} {ps : List PV} (hs : s.isAgg = false) (h : FitsAllV (s :: ss) ps) : ∃ d ps', ps = .c d :: ps' ∧ Fits s [d] ∧ FitsAllV ss ps' := by
  cases ps with
  | nil => exact h.elim
  | cons p ps =>
    obtain ⟨h1, h2⟩ := h
    cases p with
    | c d => exact ⟨d, ps, rfl, h1.2, h2⟩
    | agg ds => simp [FitsV, hs] at h1
end Go.Vs
