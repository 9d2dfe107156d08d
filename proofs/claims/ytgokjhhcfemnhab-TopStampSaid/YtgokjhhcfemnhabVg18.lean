/- A part of the proof that the law TopStamp holds of the given program: facts that are used there. -/
import Derived.Test.YtgokjhhcfemnhabVg25
import Derived.Deep.LoopGhost
namespace Go.Vg
open Go.RowKit
inductive Ex where
  | normal
  | exit (n : Nat)
  | ret
def dfltC : (cls : List Cl) → CD cls
  | [] => ()
  | .d t :: r => (zeroD t, dfltC r)
  | .obj _ :: r => dfltC r
  | .nilP :: r => dfltC r
def dfltO : (o : Ob) → OD o
  | .box _ cls => dfltC cls
  | .row _ _ => []
  | .tok _ => []
  | .ext _ t => zeroD t
def dfltP : (os : List Ob) → PD os
  | [] => ()
  | o :: r => (dfltO o, dfltP r)
/-- What is said of a loop: what its rounds hand on, for every x. -/
structure Ann : Type 1 where
  X : Type
  inv : X → Prop
  meas : X → Nat
  slots : X → List (Nat × SV)
  objs : X → List (Nat × OC) := fun _ => []
  keep : List Nat
  keepObj : List Nat := []
  mods : List Nat := []
  obs : List Ob := []
  refs : List (Nat × Nat) := []
  pd : X → PD obs := fun _ => dfltP obs
@[reducible] def sI (x : Int) : SV := .s (.one (.d (.int .i64) x))
@[reducible] def sB (x : Bool) : SV := .s (.one (.d .bool x))
@[reducible] def sS (x : List UInt8) : SV := .s (.one (.d .str x))
@[reducible] def sD (t : Ty) (x : D t) : SV := .s (.one (.d t x))
abbrev Anns := List (Nat × (St → Ann))
def sameC : C → C → Prop
  | .lit b, .d .bool c => b = c
  | .d t x, .d t' y => match h : Ty.beq t t' with
    | true => castD h x = y
    | false => False
  | .app t xs n, .app t' ys m => match h : Ty.beq (.slice t) (.slice t'), Nat.beq n m with
    | true, true => castD h (a := .slice t) (b := .slice t') xs = ys
    | _, _ => False
  | a, b => a = b
def sameSV : SV → SV → Prop
  | .s (.one a), .s (.one b) => sameC a b
  | a, b => a = b
def sameCs : List C → List C → Prop
  | [], [] => True
  | a :: as, b :: bs => sameC a b ∧ sameCs as bs
  | _, _ => False
def sameOC : OC → OC → Prop
  | .cells T cs, .cells T' cs' => match Nat.beq T T' with
    | true => sameCs cs cs'
    | false => False
  | .mrow t xs, .mrow t' ys => match h : Ty.beq (.slice t) (.slice t') with
    | true => castD h (a := .slice t) (b := .slice t') xs = ys
    | false => False
  | .arr t xs, .arr t' ys => match h : Ty.beq (.slice t) (.slice t') with
    | true => castD h (a := .slice t) (b := .slice t') xs = ys
    | false => False
  | .tok t xs, .tok t' ys => match h : Ty.beq (.slice t) (.slice t') with
    | true => castD h (a := .slice t) (b := .slice t') xs = ys
    | false => False
  | .ext k t x, .ext k' t' y => match Nat.beq k k', h : Ty.beq t t' with
    | true, true => castD h x = y
    | _, _ => False
  | .iter cs seen cl, .iter cs' seen' cl' => sameCs cs cs' ∧ seen = seen' ∧ cl = cl'
  | _, _ => False
def subEnv (st : St) : List (Nat × SV) → Prop
  | [] => True
  | (n, v) :: r => match look st.env n with
    | some u => sameSV u v ∧ subEnv st r
    | none => False
def subObj (st : St) : List (Nat × OC) → Prop
  | [] => True
  | (n, v) :: r => match look st.objs n with
    | some u => sameOC u v ∧ subObj st r
    | none => False
def keepEnv (st : St) : List Nat → List (Nat × SV)
  | [] => []
  | t :: r => match look st.env t with
    | some v => (t, v) :: keepEnv st r
    | none => keepEnv st r
def keepObjs (st : St) : List Nat → List (Nat × OC)
  | [] => []
  | t :: r => match look st.objs t with
    | some v => (t, v) :: keepObjs st r
    | none => keepObjs st r
def headSt (an : Ann) (st : St) (x : an.X) : St :=
  { env := an.slots x ++ keepEnv st an.keep, objs := an.objs x ++ keepObjs st an.keepObj, next := st.next }
def writesOps (l : List Oper) : List Nat := l.filterMap (·.dst)
def writes (anns : Anns) : Nat → Code → List Nat
  | _, .region _ ops _ => writesOps ops.toList
  | k, .seq a b => writes anns k a ++ writes anns k b
  | k, .cond _ a b => writes anns k a ++ writes anns k b
  | _, .block id b => writes anns id b
  | k, .loop b => match look anns (k + 200000) with
    | some _ => allM :: writes anns k b
    | none => writes anns k b
  | _, _ => []
def memB (n : Nat) : List Nat → Bool
  | [] => false
  | m :: r => match Nat.beq m n with
    | true => true
    | false => memB n r
def disjB (l : List Nat) (W : List Nat) : Bool := match l with
  | [] => true
  | _ => !(memB allM W) && l.all fun n => !(memB n W)
/-- Names are below a bound. -/
def capsBelow (k : Nat) : List Nat → Bool
  | [] => true
  | n :: r => Nat.blt n k && capsBelow k r
def cBelow (k : Nat) : C → Bool
  | .app _ _ n | .mrow n | .aref n | .xref n | .xd n _ | .ref n _ | .eref n _ _ _ | .msub n _ _ _ => Nat.blt n k
  | .fn _ caps => capsBelow k caps
  | _ => true
def csBelow (k : Nat) : List C → Bool
  | [] => true
  | c :: r => cBelow k c && csBelow k r
def sv0Below (k : Nat) : SV0 → Bool
  | .one c => cBelow k c
  | .agg cs => csBelow k cs
def envBelow (k : Nat) : List (Nat × SV) → Bool
  | [] => true
  | (_, .s v) :: r => sv0Below k v && envBelow k r
  | (_, .tup _) :: _ => false
def ocBelow (k : Nat) : OC → Bool
  | .cells _ cs => csBelow k cs
  | .iter cs _ _ => csBelow k cs
  | _ => true
def objsBelow (k : Nat) : List (Nat × OC) → Bool
  | [] => true
  | (n, oc) :: r => Nat.blt n k && ocBelow k oc && objsBelow k r
def presentB (env : List (Nat × SV)) : List Nat → Bool
  | [] => true
  | t :: r => match look env t with
    | some _ => presentB env r
    | none => false
def keysIn (W : List Nat) : List (Nat × SV) → Bool
  | [] => true
  | (n, _) :: r => memB n W && keysIn W r
/-- What an annotation leaves open is filled in: of the temporaries those that are there; all objects that do not turn. -/
def hereE (env : List (Nat × SV)) : List Nat → List Nat
  | [] => []
  | t :: r => match look env t with
    | some (.s _) => t :: hereE env r
    | _ => hereE env r
def dropNames (mods : List Nat) : List (Nat × OC) → List Nat
  | [] => []
  | (n, _) :: r => match memB n mods with
    | true => dropNames mods r
    | false => n :: dropNames mods r
def fillAnn (st : St) (an : Ann) : Ann :=
  { an with keep := hereE st.env an.keep, keepObj := match an.keepObj with
    | [] => dropNames an.mods st.objs
    | l => l }
/-- What a temporary, or an own row, holds: for annotations. -/
def tmpD (ty : Ty) (st : St) (t : Nat) : D ty :=
  match look st.env t with
  | some (.s c) => match asD0 ty c with
    | some x => x
    | none => zeroD ty
  | _ => zeroD ty
def rowOf (ty : Ty) (st : St) (n : Nat) : List (D ty) :=
  match look st.objs n with
  | some (.mrow t xs) => match h : Ty.beq (.slice t) (.slice ty) with
    | true => castD h (a := .slice t) xs
    | false => []
  | some (.arr t xs) => match h : Ty.beq (.slice t) (.slice ty) with
    | true => castD h (a := .slice t) xs
    | false => []
  | some (.tok t xs) => match h : Ty.beq (.slice t) (.slice ty) with
    | true => castD h (a := .slice t) xs
    | false => []
  | _ => []
/-- The object that a temporary leads to. -/
def objOf (st : St) (t : Nat) : Nat :=
  match look st.env t with
  | some (.s (.one (.mrow n))) => n
  | some (.s (.one (.aref n))) => n
  | some (.s (.one (.xref n))) => n
  | some (.s (.one (.xd n _))) => n
  | some (.s (.one (.ref n _))) => n
  | some (.s (.one (.app _ _ n))) => n
  | _ => 0
/-- A walk through a map that has seen this. -/
def iterOf (st : St) (n : Nat) (seen : List Int) : OC :=
  match look st.objs n with
  | some (.iter cs _ cl) => .iter cs seen cl
  | _ => .iter [] seen 0
/-- The object that a cell of an object leads to. -/
def objIn (st : St) (n k : Nat) : Nat :=
  match look st.objs n with
  | some (.cells _ cs) => match cs[k]? with
    | some (.mrow m) => m
    | some (.ref m _) => m
    | some (.app _ _ m) => m
    | some (.xref m) => m
    | some (.xd m _) => m
    | _ => 0
  | _ => 0
/-- A cell of a box, as data. -/
def cellD (ty : Ty) (st : St) (n k : Nat) : D ty :=
  match look st.objs n with
  | some (.cells _ cs) => match cs[k]? with
    | some c => match asD ty c with
      | some x => x
      | none => zeroD ty
    | none => zeroD ty
  | _ => zeroD ty
/-- No annotation is there (of this loop, in this state). -/
def Missing (_ : Nat) (_ : St) : Prop := False
/-- A state is one of those of an annotation. -/
def joinVC (an : Ann) (st st' : St) : VC :=
  match presentB st'.env an.keep with
  | true => .leaf (∃ x', an.inv x' ∧ subEnv st' (an.slots x') ∧ subObj st' (an.objs x' ++ keepObjs st an.keepObj))
  | false => .ff
/-- Which things a loop hands on: the names that they have in a state. -/
def refAs (st : St) : List (Nat × Nat) → Option (List (Nat × Nat))
  | [] => some []
  | (t, k) :: r => match look st.env t, refAs st r with
    | some (.s (.one c)), some as => match nameC c with
      | some n => match look as k with
        | some _ => some as
        | none => some ((k, n) :: as)
      | none => none
    | _, _ => none
def thingN (st : St) (an : Ann) : Option (List Nat) :=
  match refAs st an.refs with
  | some as1 => match bindObs st.objs 0 an.obs as1 with
    | some as2 => namesFrom as2 0 an.obs.length
    | none => none
  | none => none
def refsOK (st : St) (an : Ann) (ν : List Nat) : List (Nat × Nat) → Bool
  | [] => true
  | (t, k) :: r => (match look st.env t with
    | some (.s (.one c)) => sameRef false st.objs an.obs ν k c
    | _ => false) && refsOK st an ν r
def refsP (st : St) (an : Ann) (y : PD an.obs) : List (Nat × Nat) → List Prop
  | [] => []
  | (t, k) :: r => (match look st.env t with
    | some (.s (.one c)) => tokP an.obs y k c
    | _ => []) ++ refsP st an y r
def refEnv (an : Ann) (y : PD an.obs) (us : List Nat) : List (Nat × Nat) → List (Nat × SV)
  | [] => []
  | (t, k) :: r => (t, .s (.one (refAt an.obs y us k))) :: refEnv an y us r
def restE (an : Ann) (st : St) (x : an.X) : List (Nat × SV) := an.slots x ++ keepEnv st an.keep
def restO (an : Ann) (st : St) (x : an.X) : List (Nat × OC) := an.objs x ++ keepObjs st an.keepObj
def headSt2 (an : Ann) (st : St) (x : an.X) : St :=
  { env := refEnv an (an.pd x) (upto st.next an.obs.length) an.refs ++ restE an st x,
    objs := objsC (refAt an.obs (an.pd x) (upto st.next an.obs.length)) an.obs (an.pd x) (upto st.next an.obs.length) ++ restO an st x, next := st.next + an.obs.length }
def keysOut (ν : List Nat) : List (Nat × OC) → Bool
  | [] => true
  | (n, _) :: r => !(memN n ν) && keysOut ν r
def noRefs (keep : List Nat) : List (Nat × Nat) → Bool
  | [] => true
  | (t, _) :: r => !(memB t keep) && noRefs keep r
def headOK (an : Ann) (st : St) (W : List Nat) (x : an.X) : Bool := envBelow st.next (restE an st x) && (objsBelow st.next (restO an st x) && (keysIn W (an.slots x) && noRefs an.keep an.refs))
/-- The same, with the things that turn left out. -/
def fillAnn2 (st : St) (an : Ann) : Ann :=
  { an with keep := (hereE st.env an.keep).filter (fun t => noRefs [t] an.refs), keepObj := match an.keepObj with
    | [] => dropNames (an.mods ++ (match thingN st an with | some l => l | none => [])) st.objs
    | l => l }
/-- A state fits the annotation. -/
def fitVC (an : Ann) (st st' : St) (more : an.X → Prop) : VC :=
  match thingN st' an with
  | some ν => match nodupB ν && (refsOK st' an ν an.refs), getObs false st'.objs an.obs ν an.obs ν with
    | true, some y => .leaf (allP (refsP st' an y an.refs ++ condObs an.obs y st'.objs an.obs ν ++ [∃ x', an.inv x' ∧ more x' ∧ subEnv st' (an.slots x') ∧ subObj st' (an.objs x' ++ keepObjs st an.keepObj) ∧ (keysOut ν (restO an st x') = true ∧ y = an.pd x')]))
    | _, _ => .ff
  | none => .ff
def vc (cx : Cx) (anns : Anns) : Code → Nat → St → (Ex → St → VC) → VC
  | .skip, _, st, K => K .normal st
  | .region _ ops draw, _, st, K => match draw with
    | false => opsVC cx ops.toList ops.toList st (K .normal)
    | true => match regionOK ops with
      | true => anyVC cx ops (masks ops.toList) ops.size (Array.replicate ops.size false) st fun st' => K .normal (canon st.next (writesOps ops.toList) st')
      | false => .ff
  | .seq a b, cur, st, K => vc cx anns a cur st fun e st' => match e with
    | .normal => vc cx anns b cur st' K
    | e => K e st'
  | .cond c a b, cur, st, K => match ev1 st.env c with
    | .lit true => vc cx anns a cur st K
    | .lit false => vc cx anns b cur st K
    | .d .bool g => .ite g (vc cx anns a cur st K) (vc cx anns b cur st K)
    | _ => .ff
  | .block id b, _, st, K => match (look anns (id + 100000)).map (fun f => fillAnn st (f st)) with
    | none => vc cx anns b id st fun e st' => match e with
      | .exit i => match Nat.beq i id with
        | true => K .normal st'
        | false => K (.exit i) st'
      | e => K e st'
    | some an => match disjB an.keep (writes anns id b) with
      | true => .both (vc cx anns b id st fun e st' => match e with
        | .exit i => match Nat.beq i id with
          | true => joinVC an st st'
          | false => K (.exit i) st'
        | .normal => joinVC an st st'
        | .ret => K .ret st')
        (.all an.X fun x => .imp (an.inv x) (match envBelow st.next (headSt an st x).env && (objsBelow st.next (headSt an st x).objs && keysIn (writes anns id b) (an.slots x)) with
          | true => K .normal (headSt an st x)
          | false => .ff))
      | false => .ff
  | .loop b, cur, st, K => match look anns (cur + 200000) with
    | none => match (look anns cur).map (fun f => fillAnn st (f st)) with
      | some an => match disjB an.keep (writes anns cur b) with
        | true => .and (∃ x, an.inv x ∧ subEnv st (an.slots x) ∧ subObj st (an.objs x))
            (.all an.X fun x => .imp (an.inv x) (match envBelow st.next (headSt an st x).env && (objsBelow st.next (headSt an st x).objs && keysIn (writes anns cur b) (an.slots x)) with
              | true => vc cx anns b cur (headSt an st x) fun e st' => match e with
                | .normal => match presentB st'.env an.keep with
                  | true => .leaf (∃ x', an.inv x' ∧ an.meas x' < an.meas x ∧ subEnv st' (an.slots x') ∧ subObj st' (an.objs x' ++ keepObjs st an.keepObj))
                  | false => .ff
                | e => K e st'
              | false => .ff))
        | false => .ff
      | none => .leaf (Missing cur st)
    | some f => match fillAnn2 st (f st) with
      | an => match disjB an.keep (writes anns cur b) with
        | true => .both (fitVC an st st fun _ => True)
            (.all an.X fun x => .imp (an.inv x) (match headOK an st (writes anns cur b) x with
              | true => vc cx anns b cur (headSt2 an st x) fun e st' => match e with
                | .normal => match presentB st'.env an.keep with
                  | true => fitVC an st st' fun x' => an.meas x' < an.meas x
                  | false => .ff
                | e => K e st'
              | false => .ff))
        | false => .ff
  | .exit id, _, st, K => K (.exit id) st
  | .ret, _, st, K => K .ret st
  | _, _, _, _ => .ff
section
variable {X : Ext} {P : Program} {cx : Cx}
theorem sameC_rel {S : Sit} {a b : C} {v : Value} (h : sameC a b) (hv : CR cx.eT S a v) : CR cx.eT S b v := by
  unfold sameC at h
  split at h
  · subst h; exact bool_rel.2 hv
  · split at h
    · rename_i hb
      subst h
      exact castD_vr hb _ hv
    · exact h.elim
  · split at h
    · rename_i t xs n t' ys m _ hb hn
      have hn := Nat.eq_of_beq_eq_true hn
      subst hn
      have : t = t' := by have := Ty.eq_of_beq hb; cases this; rfl
      subst this
      rw [castL_self] at h
      subst h
      exact hv
    · exact h.elim
  · subst h; exact hv
theorem sameSV_rel {S : Sit} {a b : SV} {v : Value} (h : sameSV a b) (hv : SVR cx.eT S a v) : SVR cx.eT S b v := by
  unfold sameSV at h
  split at h
  · exact sameC_rel h hv
  · subst h; exact hv
theorem sameCs_rel {S : Sit} : ∀ {as bs : List C} {vs : List Value}, sameCs as bs → CRs cx.eT S as vs → CRs cx.eT S bs vs := by
  intro as
  induction as with
  | nil =>
    intro bs vs h hv
    cases bs with
    | nil => exact hv
    | cons => exact h.elim
  | cons a as ih =>
    intro bs vs h hv
    cases bs with
    | nil => exact h.elim
    | cons b bs =>
      cases hv with
      | cons h1 h2 h3 => exact .cons (sameC_rel h.1 h1) h2 (ih h.2 h3)
theorem sameOC_rel {S : Sit} {l : Loc} {a b : OC} (h : sameOC a b) (hv : OR cx.eT X S l a) : OR cx.eT X S l b ∧ SameKind l l a b ∧ a.lo = b.lo := by
  unfold sameOC at h
  split at h
  · split at h
    · rename_i hT
      have := Nat.eq_of_beq_eq_true hT
      subst this
      obtain ⟨b, vs, h1, h2, h3, h4⟩ := hv
      exact ⟨⟨b, vs, h1, h2, h3, sameCs_rel h h4⟩, rfl, rfl⟩
    · exact h.elim
  · split at h
    · rename_i t xs t' ys hb
      have : t = t' := by have := Ty.eq_of_beq hb; cases this; rfl
      subst this; rw [castL_self] at h; subst h
      exact ⟨hv, rfl, rfl⟩
    · exact h.elim
  · split at h
    · rename_i t xs t' ys hb
      have : t = t' := by have := Ty.eq_of_beq hb; cases this; rfl
      subst this; rw [castL_self] at h; subst h
      exact ⟨hv, rfl, rfl⟩
    · exact h.elim
  · split at h
    · rename_i t xs t' ys hb
      have : t = t' := by have := Ty.eq_of_beq hb; cases this; rfl
      subst this; rw [castL_self] at h; subst h
      exact ⟨hv, ⟨rfl, Nat.le_refl _, fun _ => rfl⟩, rfl⟩
    · exact h.elim
  · split at h
    · rename_i k t x k' t' y hk hb
      have := Nat.eq_of_beq_eq_true hk
      subst this
      have := Ty.eq_of_beq hb
      subst this; rw [castD_self] at h; subst h
      exact ⟨hv, ⟨rfl, rfl⟩, rfl⟩
    · exact h.elim
  · obtain ⟨h1, rfl, rfl⟩ := h
    obtain ⟨b, m, c, sn, k1, k2, k3, k4, k5, k6⟩ := hv
    exact ⟨⟨b, m, c, sn, k1, k2, k3, sameCs_rel h1 k4, k5, k6⟩, trivial, rfl⟩
  · exact h.elim
theorem memB_iff {n : Nat} {l : List Nat} : memB n l = true ↔ n ∈ l := by
  induction l with
  | nil => simp [memB]
  | cons m r ih =>
    simp only [memB, List.mem_cons]
    by_cases h : m = n
    · subst h; simp [Nat.beq_refl]
    · rw [beq_ne h]; simp only [ih]
      constructor
      · exact .inr
      · rintro (h' | h')
        · exact absurd h'.symm h
        · exact h'
theorem disjB_iff {l W : List Nat} (h : disjB l W = true) : ∀ n ∈ l, allM ∉ W ∧ n ∉ W := by
  intro n hn
  unfold disjB at h
  split at h
  · simp at hn
  · simp only [Bool.and_eq_true, List.all_eq_true, Bool.not_eq_true'] at h
    exact ⟨fun hW => by rw [memB_iff.2 hW] at h; exact absurd h.1 (by decide), fun hW => by have := h.2 n hn; rw [memB_iff.2 hW] at this; cases this⟩
/-- What a code comes to. -/
def QOf (cx : Cx) (X : Ext) (O : Avoid) (K : Ex → St → VC) (W : List Nat) (st : St) (S : Sit) : Exit → Act → World → Prop
  | .normal, a, w => StepK cx X O (K .normal) W st S a w
  | .exit n, a, w => StepK cx X O (K (.exit n)) W st S a w
  | .ret, a, w => StepK cx X O (K .ret) W st S a w
  | _, _, _ => False
theorem QOf.mono {O : Avoid} {K : Ex → St → VC} {W W' : List Nat} {st st1 : St} {S S1 : Sit} {e : Exit} {a : Act} {w : World} (h : QOf cx X O K W st1 S1 e a w) (ht : Tr S S1) (ha : Agree W' st st1) (hW : ∀ n ∈ W, n ∈ W') : QOf cx X O K W' st S e a w := by
  have key : ∀ K : St → VC, StepK cx X O K W st1 S1 a w → StepK cx X O K W' st S a w := by
    rintro K ⟨st', loc', k1, k2, k3, k4, k5⟩
    exact ⟨st', loc', k1, k2, ht.trans k3, k4, ha.trans fun hm t ht => k5 (fun h => hm (hW _ h)) t fun h => ht (hW t h)⟩
  cases e with
  | normal => exact key _ h
  | exit n => exact key _ h
  | ret => exact key _ h
  | goto l => exact h
  | panic c => exact h
  | outgrown => exact h
theorem look_keepEnv {st : St} {l : List Nat} {n : Nat} {v : SV} (h : look (keepEnv st l) n = some v) : n ∈ l ∧ look st.env n = some v := by
  induction l with
  | nil => simp [keepEnv, look] at h
  | cons t r ih =>
    simp only [keepEnv] at h
    split at h
    · rename_i u hu
      rw [look_cons] at h
      by_cases e : t = n
      · rw [if_pos e] at h; cases h; subst e; exact ⟨by simp, hu⟩
      · rw [if_neg e] at h; have := ih h; exact ⟨by simp [this.1], this.2⟩
    · have := ih h; exact ⟨by simp [this.1], this.2⟩
theorem look_keepObjs {st : St} {l : List Nat} {n : Nat} {v : OC} (h : look (keepObjs st l) n = some v) : look st.objs n = some v := by
  induction l with
  | nil => simp [keepObjs, look] at h
  | cons t r ih =>
    simp only [keepObjs] at h
    split at h
    · rename_i u hu
      rw [look_cons] at h
      by_cases e : t = n
      · rw [if_pos e] at h; cases h; subst e; exact hu
      · rw [if_neg e] at h; exact ih h
    · exact ih h
theorem subEnv_look {st : St} {l : List (Nat × SV)} (h : subEnv st l) : ∀ {n v}, look l n = some v → ∃ u, look st.env n = some u ∧ sameSV u v := by
  induction l with
  | nil => intro n v hl; simp [look] at hl
  | cons p r ih =>
    obtain ⟨m, x⟩ := p
    intro n v hl
    simp only [subEnv] at h
    split at h
    · rename_i u hu
      rw [look_cons] at hl
      by_cases e : m = n
      · rw [if_pos e] at hl; cases hl; subst e; exact ⟨u, hu, h.1⟩
      · rw [if_neg e] at hl; exact ih h.2 hl
    · exact h.elim
theorem subObj_look {st : St} {l : List (Nat × OC)} (h : subObj st l) : ∀ {n v}, look l n = some v → ∃ u, look st.objs n = some u ∧ sameOC u v := by
  induction l with
  | nil => intro n v hl; simp [look] at hl
  | cons p r ih =>
    obtain ⟨m, x⟩ := p
    intro n v hl
    simp only [subObj] at h
    split at h
    · rename_i u hu
      rw [look_cons] at hl
      by_cases e : m = n
      · rw [if_pos e] at hl; cases hl; subst e; exact ⟨u, hu, h.1⟩
      · rw [if_neg e] at hl; exact ih h.2 hl
    · exact h.elim
theorem blt_of {a b : Nat} (h : Nat.blt a b = true) : a < b := blt_lt h
/-- Known cells, in a situation with fewer objects and a lower bound. -/
theorem cBelow_rel {S S' : Sit} (hO : ∀ b o v, ¬ S.A b o → S.w.cell? ⟨b, o, none⟩ = some v → S'.w.cell? ⟨b, o, none⟩ = some v ∧ ¬ S'.A b o) (hloc : S'.loc = S.loc)
    (hob : ∀ n oc, S'.ob n = some oc → ∃ oc0, S.ob n = some oc0 ∧ SameKind (S.loc n) (S.loc n) oc0 oc) {c : C} {v : Value} (hb : cBelow S'.next c = true) (hv : CR cx.eT S c v) : CR cx.eT S' c v := by
  cases c with
  | lit b => exact hv
  | d t x => exact VR.frame hv hO
  | app t xs n =>
    obtain ⟨h1, h2, h3⟩ := hv
    refine ⟨VR.frame h1 hO, blt_of hb, fun ys hy => ?_⟩
    obtain ⟨oc0, k1, k2⟩ := hob n _ hy
    cases oc0 <;> simp [SameKind] at k2
    obtain ⟨rfl, k3⟩ := k2
    obtain ⟨m1, m2⟩ := h3 _ k1
    rw [hloc]
    exact ⟨by omega, fun e => m2 (by omega)⟩
  | nilS => exact hv
  | nilP => exact hv
  | emp => exact hv
  | mrow n =>
    refine ⟨blt_of hb, fun t xs e => ?_⟩
    obtain ⟨oc0, k1, k2⟩ := hob n _ e
    cases oc0 <;> simp [SameKind] at k2
    rw [hloc]; exact hv.2 _ _ k1
  | msub n t lo len =>
    refine ⟨blt_of hb, fun xs e => ?_⟩
    obtain ⟨oc0, k1, k2⟩ := hob n _ e
    cases oc0 <;> simp [SameKind] at k2
    subst k2
    rw [hloc]; exact hv.2 _ k1
  | aref n =>
    refine ⟨blt_of hb, fun t xs e => ?_⟩
    obtain ⟨oc0, k1, k2⟩ := hob n _ e
    cases oc0 <;> simp [SameKind] at k2
    rw [hloc]; exact hv.2 _ _ k1
  | xref n =>
    refine ⟨blt_of hb, fun oc e hx => ?_⟩
    obtain ⟨oc0, k1, k2⟩ := hob n _ e
    rw [hloc]; exact hv.2 _ k1 (by cases oc0 <;> cases oc <;> first | rfl | exact k2.elim | cases hx)
  | xd n p =>
    refine ⟨blt_of hb, fun t x e => ?_⟩
    obtain ⟨oc0, k1, k2⟩ := hob n _ e
    cases oc0 <;> simp [SameKind] at k2
    obtain ⟨rfl, rfl⟩ := k2
    rw [hloc]; exact hv.2 _ _ k1
  | ref n off =>
    refine ⟨blt_of hb, fun T cs e => ?_⟩
    obtain ⟨oc0, k1, k2⟩ := hob n _ e
    cases oc0 <;> simp [SameKind] at k2
    rw [hloc]; exact hv.2 _ _ k1
  | eref n t i off =>
    refine ⟨blt_of hb, fun ⟨xs, e⟩ => ?_⟩
    rw [hloc]
    rcases e with e | e
    · obtain ⟨oc0, k1, k2⟩ := hob n _ e
      cases oc0 <;> simp [SameKind] at k2
      subst k2; exact hv.2 ⟨_, .inl k1⟩
    · obtain ⟨oc0, k1, k2⟩ := hob n _ e
      cases oc0 <;> simp [SameKind] at k2
      subst k2; exact hv.2 ⟨_, .inr k1⟩
  | iref t x =>
    obtain ⟨b, o, us, rfl, h1, h2⟩ := hv
    exact ⟨b, o, us, rfl, h1.frame hO, h2.frame hO⟩
  | fn f caps =>
    obtain ⟨rfl, h2⟩ := hv
    refine ⟨by rw [hloc], fun n hn => ⟨?_, fun t ys e => ?_⟩⟩
    · have : ∀ l : List Nat, capsBelow S'.next l = true → n ∈ l → n < S'.next := by
        intro l
        induction l with
        | nil => intro _ h; simp at h
        | cons m r ih =>
          intro h hm
          simp only [capsBelow, Bool.and_eq_true] at h
          rcases List.mem_cons.1 hm with rfl | hm
          · exact blt_of h.1
          · exact ih h.2 hm
      exact this caps hb hn
    · obtain ⟨oc0, k1, k2⟩ := hob n _ e
      cases oc0 <;> simp [SameKind] at k2
      exact (h2 n hn).2 _ _ k1
  | any => trivial
theorem capsBelow_mem0 {k : Nat} : ∀ {l : List Nat} {n : Nat}, capsBelow k l = true → n ∈ l → n < k
  | [], _, _, h => by simp at h
  | m :: r, n, h, hn => by
    simp only [capsBelow, Bool.and_eq_true] at h
    rcases List.mem_cons.1 hn with e | hn
    · rw [e]; exact blt_of h.1
    · exact capsBelow_mem0 h.2 hn
theorem csBelow_rel2 {S S' : Sit} {k : Nat} (hrel : ∀ {c : C} {v : Value}, cBelow k c = true → CR cx.eT S c v → CR cx.eT S' c v) : ∀ {cs : List C} {vs : List Value}, csBelow k cs = true → CRs cx.eT S cs vs → CRs cx.eT S' cs vs := by
  intro cs
  induction cs with
  | nil => intro vs _ h; cases h; exact .nil
  | cons c cs ih =>
    intro vs hb h
    simp only [csBelow, Bool.and_eq_true] at hb
    cases h with
    | cons h1 h2 h3 => exact .cons (hrel hb.1 h1) h2 (ih hb.2 h3)
theorem cBelow_rel2 {S S' : Sit} (hO : ∀ b o v, ¬ S.A b o → S.w.cell? ⟨b, o, none⟩ = some v → S'.w.cell? ⟨b, o, none⟩ = some v ∧ ¬ S'.A b o) {k : Nat} (hk : k ≤ S'.next) (hloc : ∀ n, n < k → S'.loc n = S.loc n)
    (hob : ∀ n oc, n < k → S'.ob n = some oc → ∃ oc0, S.ob n = some oc0 ∧ SameKind (S.loc n) (S.loc n) oc0 oc) {c : C} {v : Value} (hb : cBelow k c = true) (hv : CR cx.eT S c v) : CR cx.eT S' c v := by
  cases c with
  | lit b => exact hv
  | d t x => exact VR.frame hv hO
  | app t xs n =>
    obtain ⟨h1, h2, h3⟩ := hv
    refine ⟨VR.frame h1 hO, Nat.lt_of_lt_of_le (blt_of hb) hk, fun ys hy => ?_⟩
    obtain ⟨oc0, k1, k2⟩ := hob n _ (blt_of hb) hy
    cases oc0 <;> simp [SameKind] at k2
    obtain ⟨rfl, k3⟩ := k2
    obtain ⟨m1, m2⟩ := h3 _ k1
    rw [hloc n (blt_of hb)]
    exact ⟨by omega, fun e => m2 (by omega)⟩
  | nilS => exact hv
  | nilP => exact hv
  | emp => exact hv
  | mrow n =>
    refine ⟨Nat.lt_of_lt_of_le (blt_of hb) hk, fun t xs e => ?_⟩
    obtain ⟨oc0, k1, k2⟩ := hob n _ (blt_of hb) e
    cases oc0 <;> simp [SameKind] at k2
    rw [hloc n (blt_of hb)]; exact hv.2 _ _ k1
  | msub n t lo len =>
    refine ⟨Nat.lt_of_lt_of_le (blt_of hb) hk, fun xs e => ?_⟩
    obtain ⟨oc0, k1, k2⟩ := hob n _ (blt_of hb) e
    cases oc0 <;> simp [SameKind] at k2
    subst k2
    rw [hloc n (blt_of hb)]; exact hv.2 _ k1
  | aref n =>
    refine ⟨Nat.lt_of_lt_of_le (blt_of hb) hk, fun t xs e => ?_⟩
    obtain ⟨oc0, k1, k2⟩ := hob n _ (blt_of hb) e
    cases oc0 <;> simp [SameKind] at k2
    rw [hloc n (blt_of hb)]; exact hv.2 _ _ k1
  | xref n =>
    refine ⟨Nat.lt_of_lt_of_le (blt_of hb) hk, fun oc e hx => ?_⟩
    obtain ⟨oc0, k1, k2⟩ := hob n _ (blt_of hb) e
    rw [hloc n (blt_of hb)]; exact hv.2 _ k1 (by cases oc0 <;> cases oc <;> first | rfl | exact k2.elim | cases hx)
  | xd n p =>
    refine ⟨Nat.lt_of_lt_of_le (blt_of hb) hk, fun t x e => ?_⟩
    obtain ⟨oc0, k1, k2⟩ := hob n _ (blt_of hb) e
    cases oc0 <;> simp [SameKind] at k2
    obtain ⟨rfl, rfl⟩ := k2
    rw [hloc n (blt_of hb)]; exact hv.2 _ _ k1
  | ref n off =>
    refine ⟨Nat.lt_of_lt_of_le (blt_of hb) hk, fun T cs e => ?_⟩
    obtain ⟨oc0, k1, k2⟩ := hob n _ (blt_of hb) e
    cases oc0 <;> simp [SameKind] at k2
    rw [hloc n (blt_of hb)]; exact hv.2 _ _ k1
  | eref n t i off =>
    refine ⟨Nat.lt_of_lt_of_le (blt_of hb) hk, fun ⟨xs, e⟩ => ?_⟩
    rw [hloc n (blt_of hb)]
    rcases e with e | e
    · obtain ⟨oc0, k1, k2⟩ := hob n _ (blt_of hb) e
      cases oc0 <;> simp [SameKind] at k2
      subst k2; exact hv.2 ⟨_, .inl k1⟩
    · obtain ⟨oc0, k1, k2⟩ := hob n _ (blt_of hb) e
      cases oc0 <;> simp [SameKind] at k2
      subst k2; exact hv.2 ⟨_, .inr k1⟩
  | iref t x =>
    obtain ⟨b, o, us, rfl, h1, h2⟩ := hv
    exact ⟨b, o, us, rfl, h1.frame hO, h2.frame hO⟩
  | fn f caps =>
    obtain ⟨rfl, h2⟩ := hv
    have hlt : ∀ n ∈ caps, n < k := fun n hn => capsBelow_mem0 hb hn
    refine ⟨by rw [show (caps.map fun n => (S.loc n).v) = (caps.map fun n => (S'.loc n).v) from List.map_congr_left fun n hn => by rw [hloc n (hlt n hn)]], fun n hn => ⟨Nat.lt_of_lt_of_le (hlt n hn) hk, fun t ys e => ?_⟩⟩
    obtain ⟨oc0, k1, k2⟩ := hob n _ (hlt n hn) e
    cases oc0 <;> simp [SameKind] at k2
    exact (h2 n hn).2 _ _ k1
  | any => trivial
theorem SameKind.comp {l1 l2 l3 : Loc} {a b c : OC} (h : SameKind l1 l2 a b) (h' : SameKind l2 l3 b c) : SameKind l1 l3 a c := by
  cases a <;> cases b <;> simp [SameKind] at h <;> cases c <;> simp [SameKind] at h' ⊢
  all_goals (try (simp_all; done))
  obtain ⟨rfl, a1, a2⟩ := h
  obtain ⟨rfl, b1, b2⟩ := h'
  refine ⟨rfl, by omega, fun e => ?_⟩
  rw [b2 (by omega), a2 (by omega)]
theorem csBelow_rel {S S' : Sit} (hrel : ∀ {c : C} {v : Value}, cBelow S'.next c = true → CR cx.eT S c v → CR cx.eT S' c v) : ∀ {cs : List C} {vs : List Value}, csBelow S'.next cs = true → CRs cx.eT S cs vs → CRs cx.eT S' cs vs := by
  intro cs
  induction cs with
  | nil => intro vs _ h; cases h; exact .nil
  | cons c cs ih =>
    intro vs hb h
    simp only [csBelow, Bool.and_eq_true] at hb
    cases h with
    | cons h1 h2 h3 => exact .cons (hrel hb.1 h1) h2 (ih hb.2 h3)
theorem envBelow_look {k : Nat} : ∀ {l : List (Nat × SV)}, envBelow k l = true → ∀ {n v}, look l n = some v → ∃ v0, v = .s v0 ∧ sv0Below k v0 = true := by
  intro l
  induction l with
  | nil => intro _ n v h; simp [look] at h
  | cons p r ih =>
    obtain ⟨m, x⟩ := p
    intro hb n v h
    cases x with
    | tup vs => simp [envBelow] at hb
    | s v0 =>
      simp only [envBelow, Bool.and_eq_true] at hb
      rw [look_cons] at h
      by_cases e : m = n
      · rw [if_pos e] at h; cases h; exact ⟨v0, rfl, hb.1⟩
      · rw [if_neg e] at h; exact ih hb.2 h
theorem objsBelow_look {k : Nat} : ∀ {l : List (Nat × OC)}, objsBelow k l = true → ∀ {n v}, look l n = some v → n < k ∧ ocBelow k v = true := by
  intro l
  induction l with
  | nil => intro _ n v h; simp [look] at h
  | cons p r ih =>
    obtain ⟨m, x⟩ := p
    intro hb n v h
    simp only [objsBelow, Bool.and_eq_true] at hb
    rw [look_cons] at h
    by_cases e : m = n
    · rw [if_pos e] at h; cases h; subst e; exact ⟨blt_of hb.1.1, hb.1.2⟩
    · rw [if_neg e] at h; exact ih hb.2 h
/-- The state at a loop's head, out of one that fits it. -/
theorem head_rel {an : Ann} {O : Avoid} {st st' : St} {loc loc0 : Nat → Loc} {w w0 : World} {a : Act} (x : an.X) (g : Good cx.eT X (sit O st' loc w)) (hA : ActR cx (sit O st' loc w) st' a) (ht : Tr (sit O st loc0 w0) (sit O st' loc w))
    (he : ∀ n v, look (headSt an st x).env n = some v → ∃ u, look st'.env n = some u ∧ sameSV u v)
    (ho : ∀ n v, look (headSt an st x).objs n = some v → ∃ u, look st'.objs n = some u ∧ sameOC u v)
    (hb1 : envBelow st.next (headSt an st x).env = true) (hb2 : objsBelow st.next (headSt an st x).objs = true) :
    Good cx.eT X (sit O (headSt an st x) loc w) ∧ ActR cx (sit O (headSt an st x) loc w) (headSt an st x) a ∧ Tr (sit O st loc0 w0) (sit O (headSt an st x) loc w) := by
  have hob : ∀ n oc, look (headSt an st x).objs n = some oc → ∃ oc0, look st'.objs n = some oc0 ∧ SameKind (loc n) (loc n) oc0 oc ∧ oc0.lo = oc.lo ∧ OR cx.eT X (sit O st' loc w) (loc n) oc := by
    intro n oc h
    obtain ⟨u, hu, hs⟩ := ho n oc h
    obtain ⟨h1, h2, h3⟩ := sameOC_rel hs (g.obj n u hu).2
    exact ⟨u, hu, h2, h3, h1⟩
  have hAsub : ∀ b o, (sit O (headSt an st x) loc w).A b o → (sit O st' loc w).A b o := by
    rintro b o (h | ⟨n, oc, h1, h2, h3⟩)
    · exact .inl h
    · obtain ⟨oc0, k1, _, k3, _⟩ := hob n oc h1
      exact .inr ⟨n, oc0, k1, h2, by rw [k3]; exact h3⟩
  have hcell : ∀ b o v, ¬ (sit O st' loc w).A b o → w.cell? ⟨b, o, none⟩ = some v → w.cell? ⟨b, o, none⟩ = some v ∧ ¬ (sit O (headSt an st x) loc w).A b o := fun b o v h1 h2 => ⟨h2, fun h => h1 (hAsub b o h)⟩
  have hrel : ∀ {c : C} {v : Value}, cBelow st.next c = true → CR cx.eT (sit O st' loc w) c v → CR cx.eT (sit O (headSt an st x) loc w) c v := fun hb hv =>
    cBelow_rel (S := sit O st' loc w) (S' := sit O (headSt an st x) loc w) hcell rfl (fun n oc h => let ⟨oc0, k1, k2, _⟩ := hob n oc h; ⟨oc0, k1, k2⟩) hb hv
  have hor : ∀ n oc, look (headSt an st x).objs n = some oc → OR cx.eT X (sit O (headSt an st x) loc w) (loc n) oc := by
    intro n oc h
    obtain ⟨_, _, _, _, k4⟩ := hob n oc h
    have hb := (objsBelow_look hb2 h).2
    cases oc with
    | cells T cs =>
      obtain ⟨b, vs, h1, h2, h3, h4⟩ := k4
      exact ⟨b, vs, h1, h2, h3, csBelow_rel hrel hb h4⟩
    | mrow t xs =>
      rcases k4 with k4 | ⟨b, vs, T, cap, h1, h2, h3, h4, h5, h6, h7⟩
      · exact .inl k4
      · exact .inr ⟨b, vs, T, cap, h1, h2, h3, h4, h5, h6, fun i y hy => let ⟨us, r1, r2⟩ := h7 i y hy; ⟨us, r1.frame hcell, r2⟩⟩
    | arr t xs =>
      obtain ⟨b, vs, T, h1, h2, h3, h4, h5⟩ := k4
      exact ⟨b, vs, T, h1, h2, h3, h4, fun i y hy => let ⟨us, r1, r2⟩ := h5 i y hy; ⟨us, r1.frame hcell, r2⟩⟩
    | tok t xs =>
      rcases k4 with k4 | ⟨b, vs, T, cap, h1, h2, h3, h4, h5, h6, h7⟩
      · exact .inl k4
      · exact .inr ⟨b, vs, T, cap, h1, h2, h3, h4, h5, h6, fun i y hy => let ⟨us, r1, r2⟩ := h7 i y hy; ⟨us, r1.frame hcell, r2⟩⟩
    | ext k t x => exact k4
    | iter cs seen cl => obtain ⟨b, m, c, sn, k1, k2, k3, k4, k5⟩ := k4; exact ⟨b, m, c, sn, k1, k2, k3, csBelow_rel hrel hb k4, k5⟩
  refine ⟨⟨fun n oc h => ⟨(objsBelow_look hb2 h).1, hor n oc h⟩, fun n m oc oc' b h1 h2 h3 h4 => ?_, fun n oc b off h1 h2 => ?_⟩, ⟨hA.size, hA.defers, fun n v h => ?_⟩, ?_⟩
  · obtain ⟨oc0, k1, _⟩ := hob n oc h1
    obtain ⟨oc0', k1', _⟩ := hob m oc' h2
    exact g.apart n m oc0 oc0' b k1 k1' h3 h4
  · obtain ⟨oc0, k1, _⟩ := hob n oc h1
    exact g.out n oc0 b off k1 h2
  · obtain ⟨u, hu, hs⟩ := he n v h
    have hv := sameSV_rel hs (hA.env n u hu)
    obtain ⟨v0, rfl, hb⟩ := envBelow_look hb1 h
    cases v0 with
    | one c => exact hrel hb hv
    | agg cs => obtain ⟨vs, h1, h2⟩ := hv; exact ⟨vs, h1, csBelow_rel hrel hb h2⟩
  · refine { O := ht.O, next := Nat.le_refl _, os := ht.os, output := ht.output, size := ht.size, own := fun b hb => ?_, cell := fun b o v h1 h2 => ?_, block := ht.block, loc := ht.loc, kind := fun n oc hn h => ?_ }
    · obtain ⟨n, oc, h1, h2⟩ := hb
      obtain ⟨oc0, k1, _⟩ := hob n oc h1
      exact ht.own b ⟨n, oc0, k1, h2⟩
    · obtain ⟨k1, k2⟩ := ht.cell b o v h1 h2
      exact ⟨k1, fun h => k2 (hAsub b o h)⟩
    · obtain ⟨oc0, k1, k2, _⟩ := hob n oc h
      obtain ⟨oc1, m1, m2⟩ := ht.kind n oc0 hn k1
      exact ⟨oc1, m1, m2.comp k2⟩
theorem Ty.beq_refl : ∀ t : Ty, Ty.beq t t = true := by
  intro t
  induction t with
  | prod a b iha ihb => simp [Ty.beq, iha, ihb]
  | slice e ih => simp [Ty.beq, ih]
  | int k => simp [Ty.beq]
  | _ => rfl
theorem sameC_refl (c : C) : sameC c c := by
  cases c with
  | d t x =>
    simp only [sameC]
    split
    · rfl
    · rename_i h; rw [Ty.beq_refl] at h; cases h
  | app t xs n =>
    simp only [sameC]
    split
    · rfl
    · rename_i h; exact (h (Ty.beq_refl _) (Nat.beq_refl _)).elim
  | _ => rfl
theorem sameSV_refl (v : SV) : sameSV v v := by
  cases v with
  | s v =>
    cases v with
    | one c => exact sameC_refl c
    | agg cs => rfl
  | tup vs => rfl
theorem sameCs_refl : ∀ cs : List C, sameCs cs cs
  | [] => trivial
  | c :: cs => ⟨sameC_refl c, sameCs_refl cs⟩
theorem sameOC_refl (v : OC) : sameOC v v := by
  cases v with
  | cells T cs =>
    simp only [sameOC, Nat.beq_refl]
    exact sameCs_refl cs
  | mrow t xs =>
    simp only [sameOC]
    split
    · rfl
    · rename_i h; rw [Ty.beq_refl] at h; cases h
  | arr t xs =>
    simp only [sameOC]
    split
    · rfl
    · rename_i h; rw [Ty.beq_refl] at h; cases h
  | tok t xs =>
    simp only [sameOC]
    split
    · rfl
    · rename_i h; rw [Ty.beq_refl] at h; cases h
  | ext k t x =>
    simp only [sameOC]
    split
    · rfl
    · rename_i h; exact (h (Nat.beq_refl _) (Ty.beq_refl _)).elim
  | iter cs seen cl => exact ⟨sameCs_refl cs, rfl, rfl⟩
theorem keysIn_look {W : List Nat} : ∀ {l : List (Nat × SV)}, keysIn W l = true → ∀ {n v}, look l n = some v → n ∈ W := by
  intro l
  induction l with
  | nil => intro _ n v h; simp [look] at h
  | cons p r ih =>
    obtain ⟨m, x⟩ := p
    intro hb n v h
    simp only [keysIn, Bool.and_eq_true] at hb
    rw [look_cons] at h
    by_cases e : m = n
    · subst e; exact memB_iff.1 hb.1
    · rw [if_neg e] at h; exact ih hb.2 h
theorem presentB_look {env : List (Nat × SV)} : ∀ {l : List Nat}, presentB env l = true → ∀ {n}, n ∈ l → ∃ v, look env n = some v := by
  intro l
  induction l with
  | nil => intro _ n h; simp at h
  | cons t r ih =>
    intro hb n h
    simp only [presentB] at hb
    split at hb
    · rename_i u hu
      rcases List.mem_cons.1 h with rfl | h
      · exact ⟨u, hu⟩
      · exact ih hb h
    · cases hb
theorem Ex_then {O : Avoid} {K : Ex → St → VC} {W : List Nat} {st : St} {S : Sit} {next : Act → World → Prop} {Q : Exit → Act → World → Prop} {K' : Ex → St → VC}
    (hn : ∀ a w, StepK cx X O (K' .normal) W st S a w → next a w) (hK : ∀ e, e ≠ .normal → K' e = K e) (hQ : ∀ e a w, QOf cx X O K W st S e a w → e ≠ .normal → Q e a w) {e : Exit} {a : Act} {w : World}
    (h : QOf cx X O K' W st S e a w) : Exit.then next Q e a w := by
  cases e with
  | normal => exact hn a w h
  | exit n => exact hQ _ _ _ (by simpa [QOf, hK (.exit n) (by simp)] using h) (by simp)
  | ret => exact hQ _ _ _ (by simpa [QOf, hK .ret (by simp)] using h) (by simp)
  | goto l => exact h.elim
  | panic c => exact h.elim
  | outgrown => exact h.elim
/-- How a state fits an annotation with things. -/
structure FitA (an : Ann) (st st' : St) (x : an.X) (ν : List Nat) : Prop where
  nodup : nodupB ν = true
  refs : refsOK st' an ν an.refs = true
  get : getObs false st'.objs an.obs ν an.obs ν = some (an.pd x)
  toks : ∀ p ∈ refsP st' an (an.pd x) an.refs, p
  conds : ∀ p ∈ condObs an.obs (an.pd x) st'.objs an.obs ν, p
  env : subEnv st' (an.slots x)
  objs : subObj st' (restO an st x)
  out : keysOut ν (restO an st x) = true
theorem fitVC_out {an : Ann} {st st' : St} {more : an.X → Prop} (h : (fitVC an st st' more).holds) : ∃ x, an.inv x ∧ more x ∧ ∃ ν, FitA an st st' x ν := by
  unfold fitVC at h
  split at h
  · rename_i ν _
    split at h
    · rename_i y hc hy
      simp only [Bool.and_eq_true] at hc
      have hall := allP_out h
      obtain ⟨x, h1, h2, h3, h4, h5, h6⟩ := hall (∃ x', an.inv x' ∧ more x' ∧ subEnv st' (an.slots x') ∧ subObj st' (an.objs x' ++ keepObjs st an.keepObj) ∧ (keysOut ν (restO an st x') = true ∧ y = an.pd x')) (List.mem_append_right _ (List.mem_singleton.2 rfl))
      subst h6
      obtain ⟨k1, _⟩ := allP_app.1 hall
      obtain ⟨k1, k2⟩ := allP_app.1 k1
      exact ⟨x, h1, h2, ν, hc.1, hc.2, hy, k1, k2, h3, h4, h5⟩
    · exact h.elim
  · exact h.elim
theorem keysOut_look {ν : List Nat} : ∀ {l : List (Nat × OC)}, keysOut ν l = true → ∀ {n v}, look l n = some v → n ∉ ν
  | [], _, n, v, h => by simp [look] at h
  | (m, u) :: r, hk, n, v, h => by
    simp only [keysOut, Bool.and_eq_true, Bool.not_eq_true'] at hk
    rw [look_cons] at h
    split at h
    · rename_i e; subst e
      intro hm; rw [memN_iff.2 hm] at hk; exact absurd hk.1 (by decide)
    · exact keysOut_look hk.2 h
theorem refEnv_look {an : Ann} {y : PD an.obs} {us : List Nat} : ∀ {l : List (Nat × Nat)} {t : Nat} {v : SV}, look (refEnv an y us l) t = some v → ∃ k, (t, k) ∈ l ∧ v = .s (.one (refAt an.obs y us k))
  | [], t, v, h => by simp [refEnv, look] at h
  | (m, k) :: r, t, v, h => by
    simp only [refEnv, look_cons] at h
    split at h
    · rename_i e; subst e; cases h; exact ⟨k, by simp, rfl⟩
    · obtain ⟨k', h1, h2⟩ := refEnv_look h; exact ⟨k', by simp [h1], h2⟩
theorem refsOK_mem {st : St} {an : Ann} {ν : List Nat} : ∀ {l : List (Nat × Nat)} {t k : Nat}, refsOK st an ν l = true → (t, k) ∈ l → ∃ c, look st.env t = some (.s (.one c)) ∧ sameRef false st.objs an.obs ν k c = true
  | [], _, _, _, h => by simp at h
  | (m, i) :: r, t, k, h, hm => by
    simp only [refsOK, Bool.and_eq_true] at h
    rcases List.mem_cons.1 hm with e | hm
    · cases e
      obtain ⟨h1, _⟩ := h
      split at h1
      · rename_i c hc; exact ⟨c, hc, h1⟩
      · cases h1
    · exact refsOK_mem h.2 hm
theorem refsP_mem {st : St} {an : Ann} {y : PD an.obs} : ∀ {l : List (Nat × Nat)} {t k : Nat} {c : C}, (∀ p ∈ refsP st an y l, p) → (t, k) ∈ l → look st.env t = some (.s (.one c)) → ∀ p ∈ tokP an.obs y k c, p
  | [], _, _, _, _, h, _ => by simp at h
  | (m, i) :: r, t, k, c, h, hm, hl => by
    simp only [refsP] at h
    obtain ⟨h1, h2⟩ := allP_app.1 h
    rcases List.mem_cons.1 hm with e | hm
    · cases e
      rw [hl] at h1
      exact h1
    · exact refsP_mem h2 hm hl
theorem noRefs_mem {keep : List Nat} : ∀ {l : List (Nat × Nat)} {t k : Nat}, noRefs keep l = true → (t, k) ∈ l → t ∉ keep
  | [], _, _, _, h => by simp at h
  | (m, i) :: r, t, k, h, hm => by
    simp only [noRefs, Bool.and_eq_true, Bool.not_eq_true'] at h
    rcases List.mem_cons.1 hm with e | hm
    · cases e
      intro hk; rw [memB_iff.2 hk] at h; exact absurd h.1 (by decide)
    · exact noRefs_mem h.2 hm
/-- The state at the head of a loop with things, out of one that fits it. -/
theorem head2_rel {an : Ann} {O : Avoid} {st st' : St} {loc loc0 : Nat → Loc} {w w0 : World} {a : Act} {W : List Nat} (x : an.X) (g : Good cx.eT X (sit O st' loc w)) (hA : ActR cx (sit O st' loc w) st' a) (ht : Tr (sit O st loc0 w0) (sit O st' loc w))
    (hok : headOK an st W x = true) (hkeep : ∀ n ∈ an.keep, ∀ v, look st.env n = some v → ∃ u, look st'.env n = some u ∧ sameSV u v) (hf : ∃ ν, FitA an st st' x ν) :
    ∃ loc', Good cx.eT X (sit O (headSt2 an st x) loc' w) ∧ ActR cx (sit O (headSt2 an st x) loc' w) (headSt2 an st x) a ∧ Tr (sit O st loc0 w0) (sit O (headSt2 an st x) loc' w) := by
  obtain ⟨ν, hf⟩ := hf
  simp only [headOK, Bool.and_eq_true] at hok
  obtain ⟨hb1, hb2, hkeys, hnr⟩ := hok
  generalize husd : upto st.next an.obs.length = us
  have husl : us.length = an.obs.length := by rw [← husd]; exact upto_len _ _
  have hus : nodupB us = true := by rw [← husd]; exact upto_nodup _ _
  have husm : ∀ n ∈ us, st.next ≤ n ∧ n < st.next + an.obs.length := fun n hn => by rw [← husd] at hn; exact upto_mem hn
  have hlen : ν.length = us.length := by rw [husl]; exact (getObs_len hf.get).symm
  let loc' := locOf us (ν.map loc) loc
  have hlow : ∀ n, n < st.next → loc' n = loc n := fun n hn => locOf_not fun hm => by have := (husm n hm).1; omega
  have hnu : ∀ n, n < st.next → n ∉ us := fun n hn hm => by have := (husm n hm).1; omega
  have hrest : ∀ m oc, look (restO an st x) m = some oc → m < st.next ∧ m ∉ ν ∧ ∃ u, look st'.objs m = some u ∧ SameKind (loc m) (loc m) u oc ∧ u.lo = oc.lo ∧ OR cx.eT X (sit O st' loc w) (loc m) oc := by
    intro m oc hm
    obtain ⟨u, hu, hs⟩ := subObj_look hf.objs hm
    obtain ⟨h1, h2, h3⟩ := sameOC_rel hs (g.obj m u hu).2
    exact ⟨(objsBelow_look hb2 hm).1, keysOut_look hf.out hm, u, hu, h2, h3, h1⟩
  have hob : ∀ m oc, look (headSt2 an st x).objs m = some oc → (∃ (i n : Nat) (o : Ob) (y : OD o) (oc0 : OC), ν[i]? = some n ∧ us[i]? = some m ∧ look st'.objs n = some oc0 ∧ getO false st'.objs an.obs ν o oc0 = some y ∧
      oc = ocOf (refAt an.obs (an.pd x) us) o y ∧ loc' m = loc n) ∨ (m ∉ us ∧ look (restO an st x) m = some oc ∧ loc' m = loc m) := by
    intro m oc hm
    simp only [headSt2, husd, look_append] at hm
    split at hm
    · rename_i oc' hm'
      cases hm
      obtain ⟨i, n, o, y, oc0, k1, k2, k3, k4, k5, k6, _⟩ := objsC_find hf.get (getObs_rel (X := X) g hf.get hf.get hf.conds) hlen hm'
      exact .inl ⟨i, n, o, y, oc0, k1, k2, k4, k5, k6, locOf_get hus k2 (by simp [k1])⟩
    · rename_i hm'
      have hnin : m ∉ us := fun hmem => by
        obtain ⟨oc1, h2⟩ := objsC_mem (f := refAt an.obs (an.pd x) us) (x := an.pd x) husl.symm hmem
        rw [h2] at hm'; cases hm'
      exact .inr ⟨hnin, hm, locOf_not hnin⟩
  have hAsub : ∀ b o, (sit O (headSt2 an st x) loc' w).A b o → (sit O st' loc w).A b o := by
    rintro b off (h | ⟨m, oc, h1, h2, h3⟩)
    · exact .inl h
    · rcases hob m oc h1 with ⟨i, n, o, y, oc0, k1, k2, k4, k5, k6, k7⟩ | ⟨k1, k2, k3⟩
      · refine .inr ⟨n, oc0, k4, by simp only [sit] at h2; rw [k7] at h2; exact h2, ?_⟩
        rcases getO_lo (f := refAt an.obs (an.pd x) us) k5 with e | e
        · rw [← e, ← k6]; exact h3
        · cases e
      · obtain ⟨_, _, u, hu, _, hlo, _⟩ := hrest m oc k2
        exact .inr ⟨m, u, hu, by simp only [sit] at h2; rw [k3] at h2; exact h2, by rw [hlo]; exact h3⟩
  have hcell : ∀ b o v, ¬ (sit O st' loc w).A b o → w.cell? ⟨b, o, none⟩ = some v → w.cell? ⟨b, o, none⟩ = some v ∧ ¬ (sit O (headSt2 an st x) loc' w).A b o := fun b o v h1 h2 => ⟨h2, fun h => h1 (hAsub b o h)⟩
  have hrel : ∀ {c : C} {v : Value}, cBelow st.next c = true → CR cx.eT (sit O st' loc w) c v → CR cx.eT (sit O (headSt2 an st x) loc' w) c v := fun hb hv =>
    cBelow_rel2 (S := sit O st' loc w) (S' := sit O (headSt2 an st x) loc' w) (k := st.next) hcell (by simp [sit, headSt2]) (fun n hn => hlow n hn) (fun n oc hn h => by
      rcases hob n oc h with ⟨i, n', o, y, oc0, k1, k2, _⟩ | ⟨k1, k2, k3⟩
      · exact absurd (List.mem_of_getElem? k2) (hnu n hn)
      · obtain ⟨_, _, u, hu, hk, _, _⟩ := hrest n oc k2
        exact ⟨u, hu, hk⟩) hb hv
  obtain ⟨gN, laid⟩ := relay (X := X) g hf.get hf.conds hf.nodup (O2 := O) (ν2 := us) (rest := restO an st x) (locR := loc) (st2 := headSt2 an st x) hus hlen (by simp only [headSt2, husd])
    (fun n hn => by have := (husm n hn).2; simp only [headSt2]; exact this)
    (fun n hn b hb off h => by
      obtain ⟨_, oc, _, _, k, _⟩ := getObs_look hf.get hn
      exact g.out n oc b off k hb h)
    (fun n hn b hb m oc h1 h2 h3 => by
      obtain ⟨_, oc0, _, _, k, _⟩ := getObs_look hf.get hn
      obtain ⟨_, hmν, u, hu, _⟩ := hrest m oc h1
      have := g.apart n m oc0 u b k hu hb h3
      exact hmν (by rw [← this]; exact hn))
    (fun m oc h1 h2 => by
      obtain ⟨hm, _, u, hu, hk, hlo, hor⟩ := hrest m oc h1
      refine ⟨by simp only [headSt2]; omega, ?_⟩
      have hb := (objsBelow_look hb2 h1).2
      cases oc with
      | cells T cs =>
        obtain ⟨b, vs, h1, h2, h3, h4⟩ := hor
        exact ⟨b, vs, h1, h2, h3, csBelow_rel2 (k := st.next) hrel hb h4⟩
      | mrow t xs => exact RowR.to (S := sit O st' loc w) (S' := sit O (headSt2 an st x) loc' w) rfl (.inr hAsub) hor
      | tok t xs => exact RowR.to (X := X) (S := sit O st' loc w) (S' := sit O (headSt2 an st x) loc' w) (l := loc m) rfl (.inr hAsub) hor
      | arr t xs =>
        obtain ⟨b, vs, T, h1, h2, h3, h4, h5⟩ := hor
        exact ⟨b, vs, T, h1, h2, h3, h4, fun i y hy => let ⟨us, r1, r2⟩ := h5 i y hy; ⟨us, r1.frame hcell, r2⟩⟩
      | ext k t x => exact hor
      | iter cs seen cl => obtain ⟨b, m, c, sn, k1, k2, k3, k4, k5⟩ := hor; exact ⟨b, m, c, sn, k1, k2, k3, csBelow_rel2 (k := st.next) hrel hb k4, k5⟩)
    (fun m m' oc oc' b h1 h2 _ _ h3 h4 => by
      obtain ⟨_, _, u, hu, _⟩ := hrest m oc h1
      obtain ⟨_, _, u', hu', _⟩ := hrest m' oc' h2
      exact g.apart m m' u u' b hu hu' h3 h4)
    (fun m oc b off h1 _ h2 => by
      obtain ⟨_, _, u, hu, _⟩ := hrest m oc h1
      exact g.out m u b off hu h2)
    (.inr hAsub)
  refine ⟨loc', gN, ⟨hA.size, hA.defers, fun t sv hl => ?_⟩, ?_⟩
  · simp only [headSt2, husd, look_append] at hl
    split at hl
    · rename_i v hv
      cases hl
      obtain ⟨k, hk, rfl⟩ := refEnv_look hv
      obtain ⟨c, hc, hs⟩ := refsOK_mem hf.refs hk
      have hcv : CR cx.eT (sit O st' loc w) c (a.tmps.getD t undef) := hA.env t _ hc
      exact CR_ref laid (refR_of g hcv hf.get hs (refsP_mem hf.toks hk hc))
    · have hl2 : look (restE an st x) t = some sv := hl
      have hst : ∃ u, look st'.env t = some u ∧ sameSV u sv := by
        simp only [restE, look_append] at hl2
        split at hl2
        · rename_i v hv; cases hl2; exact subEnv_look hf.env hv
        · obtain ⟨h1, h2⟩ := look_keepEnv hl2; exact hkeep t h1 sv h2
      obtain ⟨u, hu, hs⟩ := hst
      have hv := sameSV_rel hs (hA.env t u hu)
      obtain ⟨v0, rfl, hb⟩ := envBelow_look hb1 hl2
      cases v0 with
      | one c => exact hrel hb hv
      | agg cs => obtain ⟨vs, h1, h2⟩ := hv; exact ⟨vs, h1, csBelow_rel2 (k := st.next) hrel hb h2⟩
  · refine { O := ht.O, next := by simp [sit, headSt2], os := ht.os, output := ht.output, size := ht.size, own := fun b hb => ?_, cell := fun b o v h1 h2 => ?_, block := ht.block, loc := fun n hn hfx => ?_, kind := fun n oc hn h => ?_ }
    · obtain ⟨m, oc, h1, h2⟩ := hb
      rcases hob m oc h1 with ⟨i, n, o, y, oc0, k1, k2, k4, k5, k6, k7⟩ | ⟨k1, k2, k3⟩
      · exact ht.own b ⟨n, oc0, k4, by simp only [sit] at h2; rw [k7] at h2; exact h2⟩
      · obtain ⟨_, _, u, hu, _⟩ := hrest m oc k2
        exact ht.own b ⟨m, u, hu, by simp only [sit] at h2; rw [k3] at h2; exact h2⟩
    · obtain ⟨k1, k2⟩ := ht.cell b o v h1 h2
      exact ⟨k1, fun h => k2 (hAsub b o h)⟩
    · show loc' n = _
      rw [hlow n hn]; exact ht.loc n hn hfx
    · rcases hob n oc h with ⟨i, n', o, y, oc0, k1, k2, _⟩ | ⟨k1, k2, k3⟩
      · exact absurd (List.mem_of_getElem? k2) (hnu n hn)
      · obtain ⟨_, _, u, hu, hk, _, _⟩ := hrest n oc k2
        obtain ⟨oc1, m1, m2⟩ := ht.kind n u hn hu
        refine ⟨oc1, m1, ?_⟩
        show SameKind _ (loc' n) _ _
        rw [hlow n hn]
        exact m2.comp hk
theorem head2_kept {an : Ann} {st : St} {W : List Nat} {x : an.X} (hok : headOK an st W x = true) {n : Nat} (hn : n ∈ an.keep) {v : SV} (h : look (headSt2 an st x).env n = some v) (hW : n ∉ W) : look st.env n = some v := by
  simp only [headOK, Bool.and_eq_true] at hok
  obtain ⟨_, _, hkeys, hnr⟩ := hok
  simp only [headSt2, restE, look_append] at h
  split at h
  · rename_i u hu
    obtain ⟨k, hk, _⟩ := refEnv_look hu
    exact absurd hn (noRefs_mem hnr hk)
  · split at h
    · rename_i u hu; exact absurd (keysIn_look hkeys hu) hW
    · exact (look_keepEnv h).2
/-- What 'vc' says of a code is so. -/
theorem vc_sound (hok : CxOK P cx X) (anns : Anns) {O : Avoid} : ∀ (c : Code) (cur : Nat) {st : St} {loc : Nat → Loc} {w : World} {a : Act} {K : Ex → St → VC},
    ActR cx (sit O st loc w) st a → Good cx.eT X (sit O st loc w) → OIn O w → (vc cx anns c cur st K).holds → c.wp P (QOf cx X O K (writes anns cur c) st (sit O st loc w)) a w := by
  intro c
  induction c with
  | skip => intro cur st loc w a K hA g hO h; exact wp_skip ⟨st, loc, h, g, Tr.refl _, hA, fun _ _ _ _ h => h⟩
  | region id ops draw =>
    intro cur st loc w a K hA g hO h
    have hW : ∀ (j : Nat) (oj : Oper) (d : Nat), ops[j]? = some oj → oj.dst = some d → d ∈ writesOps ops.toList := by
      intro j oj d hj hd
      exact List.mem_filterMap.2 ⟨oj, by rw [← Array.getElem?_toList] at hj; exact List.mem_of_getElem? hj, hd⟩
    have hq : ∀ st' loc' a' w', (K .normal st').holds → Good cx.eT X (sit O st' loc' w') → Tr (sit O st loc w) (sit O st' loc' w') → ActR cx (sit O st' loc' w') st' a' → Agree (writesOps ops.toList) st st' →
        QOf cx X O K (writes anns cur (.region id ops draw)) st (sit O st loc w) .normal a' w' := fun st' loc' a' w' h1 h2 h3 h4 h5 => ⟨st', loc', h1, h2, h3, h4, h5⟩
    simp only [vc] at h
    cases draw with
    | false =>
      refine wp_region_list ?_
      exact opsVC_sound hok hW ops.toList (fun o ho d hd => List.mem_filterMap.2 ⟨o, ho, hd⟩) hA g hO h hq
    | true =>
      split at h
      · rename_i e; cases e
      · rename_i e
        split at h
        · rename_i hreg
          refine wp_region_any hok.mixed (wpS_any (loud := loudB cx ops.toList) _ _ _ _ ?_)
          have hdrew : Below w.heap.size w { w with drawn := w.drawn + 1 } := ⟨rfl, rfl, Nat.le_refl _, fun _ _ => rfl⟩
          obtain ⟨tr, g'⟩ := step_world (S := sit O st loc w) (S' := sit O st loc { w with drawn := w.drawn + 1 }) g rfl rfl rfl rfl hdrew
          refine anyVC_sound hok hW hreg (fun c a w h => h) ops.size _ ?_ ⟨hA.size, hA.defers, hA.env.tr tr⟩ g' (hO.tr (Nat.le_refl _)) h ?_
          · intro j o ho hj
            rw [Array.getD_eq_getD_getElem?, Array.getElem?_replicate] at hj
            split at hj <;> simp at hj
          · intro st' loc' a' w' h1 h2 h3 h4 h5
            obtain ⟨st2, loc2, k1, k2, k3, k4, k5⟩ := StepK.ren (K := K .normal) (f := canon st.next (writesOps ops.toList)) (W := writesOps ops.toList) hA (fun st' => by
              rcases canon_turn st.next (writesOps ops.toList) st' with e | ⟨r, q, k1, k2⟩
              · exact .inl e
              · exact .inr ⟨r, q, k1, k2⟩) (⟨st', loc', h1, h2, tr.trans h3, h4, h5⟩ : StepK cx X O (fun st' => K .normal (canon st.next (writesOps ops.toList) st')) (writesOps ops.toList) st (sit O st loc w) a' w')
            exact hq st2 loc2 a' w' k1 k2 k3 k4 k5
        · exact h.elim
  | seq c1 c2 ih1 ih2 =>
    intro cur st loc w a K hA g hO h
    refine wp_seq ?_
    refine wp_mono (ih1 cur hA g hO h) ?_
    intro e a' w' hq
    refine Ex_then (K := K) (W := writes anns cur c1) ?_ (fun e he => by cases e <;> simp_all) ?_ hq
    · rintro a1 w1 ⟨st', loc', k1, k2, k3, k4, k5⟩
      refine wp_mono (ih2 cur k4 k2 (hO.tr k3.size) k1) ?_
      intro e a2 w2 hq2
      exact hq2.mono k3 (W' := writes anns cur (.seq c1 c2)) (fun hm t ht => k5 (fun h => hm (List.mem_append.2 (.inl h))) t fun hm => ht (List.mem_append.2 (.inl hm))) (fun n hn => List.mem_append.2 (.inr hn))
    · intro e a1 w1 hq1 _
      exact hq1.mono (Tr.refl _) (fun _ _ _ _ h => h) (fun n hn => List.mem_append.2 (.inl hn))
  | cond x c1 c2 ih1 ih2 =>
    intro cur st loc w a K hA g hO h
    have hx := ev1_rel hA.env x
    have h1 : ∀ {K}, (vc cx anns c1 cur st K).holds → c1.wp P (QOf cx X O K (writes anns cur (.cond x c1 c2)) st (sit O st loc w)) a w := fun h =>
      wp_mono (ih1 cur hA g hO h) fun e a' w' hq => hq.mono (Tr.refl _) (fun _ _ _ _ h => h) (fun n hn => List.mem_append.2 (.inl hn))
    have h2 : ∀ {K}, (vc cx anns c2 cur st K).holds → c2.wp P (QOf cx X O K (writes anns cur (.cond x c1 c2)) st (sit O st loc w)) a w := fun h =>
      wp_mono (ih2 cur hA g hO h) fun e a' w' hq => hq.mono (Tr.refl _) (fun _ _ _ _ h => h) (fun n hn => List.mem_append.2 (.inr hn))
    simp only [vc] at h
    split at h
    · rename_i hl; rw [hl] at hx; exact wp_cond_true hx (h1 h)
    · rename_i hl; rw [hl] at hx; exact wp_cond_false hx (h2 h)
    · rename_i b hl
      rw [hl] at hx
      have hx := (bool_rel (eT := cx.eT) (S := sit O st loc w) (b := b)).1 hx
      cases b
      · exact wp_cond_false hx (h2 (h.2 rfl))
      · exact wp_cond_true hx (h1 (h.1 rfl))
    · exact h.elim
  | block id b ih =>
    intro cur st loc w a K hA g hO h
    refine wp_block ?_
    simp only [vc] at h
    split at h
    case h_2 =>
      rename_i an _
      split at h
      case h_2 => exact h.elim
      rename_i hdis
      have hkeepW := disjB_iff hdis
      obtain ⟨hb, hk⟩ := h
      refine wp_mono (ih id hA g hO hb) ?_
      intro e a' w' hq
      have join : StepK cx X O (joinVC an st) (writes anns id b) st (sit O st loc w) a' w' → QOf cx X O K (writes anns cur (.block id b)) st (sit O st loc w) .normal a' w' := by
        rintro ⟨st2, loc2, k1, k2, k3, k4, k5⟩
        simp only [joinVC] at k1
        split at k1
        case h_2 => exact k1.elim
        rename_i hpres
        obtain ⟨x', hx', hs', ho'⟩ := k1
        have hvx := hk x' hx'
        split at hvx
        case h_2 => exact hvx.elim
        rename_i hbb
        simp only [Bool.and_eq_true] at hbb
        have hhead : ∀ t, t ∉ writes anns id b → ∀ v, look (headSt an st x').env t = some v → look st.env t = some v := by
          intro t ht v hv
          simp only [headSt, look_append] at hv
          split at hv
          · rename_i u hu; exact absurd (keysIn_look hbb.2.2 hu) ht
          · exact (look_keepEnv hv).2
        obtain ⟨m1, m2, m3⟩ := head_rel (an := an) (st := st) x' k2 k4 k3 (by
            intro n v hv
            simp only [headSt, look_append] at hv
            split at hv
            · rename_i u hu; cases hv; exact subEnv_look hs' hu
            · obtain ⟨hmem, hl⟩ := look_keepEnv hv
              refine ⟨v, ?_, sameSV_refl v⟩
              obtain ⟨v', hv'⟩ := presentB_look hpres hmem
              have := k5 (hkeepW n hmem).1 n (hkeepW n hmem).2 v' hv'
              rw [hl] at this
              cases this
              exact hv')
          (by
            intro n v hv
            simp only [headSt] at hv
            exact subObj_look ho' hv) hbb.1 hbb.2.1
        exact ⟨headSt an st x', loc2, hvx, m1, m3, m2, fun _ t ht v hv => hhead t ht v hv⟩
      cases e with
      | normal => exact join hq
      | exit i =>
        show if i = id then _ else _
        by_cases hi : i = id
        · rw [if_pos hi]
          subst hi
          obtain ⟨st', loc', k1, k2⟩ := hq
          simp only [Nat.beq_refl] at k1
          exact join ⟨st', loc', k1, k2⟩
        · rw [if_neg hi]
          obtain ⟨st', loc', k1, k2⟩ := hq
          simp only [beq_ne hi] at k1
          exact ⟨st', loc', k1, k2⟩
      | ret => exact hq
      | goto l => exact hq.elim
      | panic c => exact hq.elim
      | outgrown => exact hq.elim
    refine wp_mono (ih id hA g hO h) ?_
    intro e a' w' hq
    cases e with
    | normal => exact hq
    | exit i =>
      obtain ⟨st', loc', k1, k2, k3, k4, k5⟩ := hq
      simp only at k1
      show if i = id then _ else _
      split at k1
      · rename_i hi
        rw [if_pos (Nat.eq_of_beq_eq_true hi)]
        exact ⟨st', loc', k1, k2, k3, k4, k5⟩
      · rename_i hi
        rw [if_neg (fun e => by rw [e, Nat.beq_refl] at hi; cases hi)]
        exact ⟨st', loc', k1, k2, k3, k4, k5⟩
    | ret => exact hq
    | goto l => exact hq.elim
    | panic c => exact hq.elim
    | outgrown => exact hq.elim
  | loop b ih =>
    intro cur st loc w a K hA g hO h
    simp only [vc] at h
    split at h
    · rename_i hnone
      have hwl : writes anns cur (.loop b) = writes anns cur b := by simp only [writes, hnone]
      split at h
      case h_2 => exact h.elim
      rename_i an _
      split at h
      · rename_i hdis
        have hkeepW := disjB_iff hdis
        obtain ⟨⟨x0, hx0, hs0, ho0⟩, h⟩ := h
        have hobk : ∀ x n v, look (headSt an st x).objs n = some v → look (an.objs x) n = some v ∨ look st.objs n = some v := by
          intro x n v hv
          simp only [headSt, look_append] at hv
          split at hv
          · rename_i u hu; cases hv; exact .inl hu
          · exact .inr (look_keepObjs hv)
        have hhead : ∀ x, keysIn (writes anns cur b) (an.slots x) = true → ∀ t, t ∉ writes anns cur b → ∀ v, look (headSt an st x).env t = some v → look st.env t = some v := by
          intro x hk t ht v hv
          simp only [headSt, look_append] at hv
          split at hv
          · rename_i u hu; exact absurd (keysIn_look hk hu) ht
          · exact (look_keepEnv hv).2
        refine wp_loop_ghost (fun n a' w' => ∃ x loc', an.inv x ∧ an.meas x = n ∧ envBelow st.next (headSt an st x).env = true ∧ (objsBelow st.next (headSt an st x).objs = true ∧ keysIn (writes anns cur b) (an.slots x) = true) ∧
          (vc cx anns b cur (headSt an st x) fun e st' => match e with
              | .normal => match presentB st'.env an.keep with
                | true => .leaf (∃ x', an.inv x' ∧ an.meas x' < an.meas x ∧ subEnv st' (an.slots x') ∧ subObj st' (an.objs x' ++ keepObjs st an.keepObj))
                | false => .ff
              | e => K e st').holds ∧
          Good cx.eT X (sit O (headSt an st x) loc' w') ∧ ActR cx (sit O (headSt an st x) loc' w') (headSt an st x) a' ∧ Tr (sit O st loc w) (sit O (headSt an st x) loc' w')) (an.meas x0) ?_ ?_
        · have hx := h x0 hx0
          split at hx
          · rename_i hb
            simp only [Bool.and_eq_true] at hb
            obtain ⟨m1, m2, m3⟩ := head_rel (an := an) (st := st) x0 g hA (Tr.refl _) (by
                intro n v hv
                simp only [headSt, look_append] at hv
                split at hv
                · rename_i u hu; cases hv; exact subEnv_look hs0 hu
                · obtain ⟨_, hl⟩ := look_keepEnv hv
                  exact ⟨v, hl, sameSV_refl v⟩)
              (by
                intro n v hv
                rcases hobk x0 n v hv with hv | hv
                · exact subObj_look ho0 hv
                · exact ⟨v, hv, sameOC_refl v⟩) hb.1 hb.2.1
            exact ⟨x0, loc, hx0, rfl, hb.1, hb.2, hx, m1, m2, m3⟩
          · exact hx.elim
        · rintro n a1 w1 ⟨x, loc1, hx, hn, hb1, hb2, hvc, g1, hA1, tr1⟩
          refine wp_mono (ih cur hA1 g1 (hO.tr tr1.size) hvc) ?_
          intro e a2 w2 hq
          have up : ∀ Kx : St → VC, StepK cx X O Kx (writes anns cur b) (headSt an st x) (sit O (headSt an st x) loc1 w1) a2 w2 → StepK cx X O Kx (writes anns cur (.loop b)) st (sit O st loc w) a2 w2 := by
            rintro Kx ⟨st2, loc2, k1, k2, k3, k4, k5⟩
            exact ⟨st2, loc2, k1, k2, tr1.trans k3, k4, fun hm t ht v hv => by rw [hwl] at hm ht; exact hhead x hb2.2 t ht v (k5 hm t ht v hv)⟩
          cases e with
          | normal =>
            obtain ⟨st2, loc2, k1, k2, k3, k4, k5⟩ := hq
            simp only at k1
            split at k1
            case h_2 => exact k1.elim
            rename_i hpres
            obtain ⟨x', hx', hlt, hs', ho'⟩ := k1
            have hvx := h x' hx'
            refine ⟨an.meas x', by rw [← hn]; exact hlt, ?_⟩
            split at hvx
            · rename_i hb
              simp only [Bool.and_eq_true] at hb
              obtain ⟨m1, m2, m3⟩ := head_rel (an := an) (st := st) x' k2 k4 (tr1.trans k3) (by
                  intro n v hv
                  simp only [headSt, look_append] at hv
                  split at hv
                  · rename_i u hu; cases hv; exact subEnv_look hs' hu
                  · obtain ⟨hmem, hl⟩ := look_keepEnv hv
                    refine ⟨v, ?_, sameSV_refl v⟩
                    obtain ⟨v', hv'⟩ := presentB_look hpres hmem
                    have := hhead x hb2.2 n (hkeepW n hmem).2 v' (k5 (hkeepW n hmem).1 n (hkeepW n hmem).2 v' hv')
                    rw [hl] at this
                    cases this
                    exact hv')
                (by
                  intro n v hv
                  simp only [headSt] at hv
                  exact subObj_look ho' hv) hb.1 hb.2.1
              exact ⟨x', loc2, hx', rfl, hb.1, hb.2, hvx, m1, m2, m3⟩
            · exact hvx.elim
          | exit i => exact up _ hq
          | ret => exact up _ hq
          | goto l => exact hq.elim
          | panic c => exact hq.elim
          | outgrown => exact hq.elim
      · exact h.elim
    · rename_i f hsome
      have hwl : writes anns cur (.loop b) = allM :: writes anns cur b := by simp only [writes, hsome]
      generalize fillAnn2 st (f st) = an at h
      split at h
      case h_2 => exact h.elim
      rename_i hdis
      have hkeepW := disjB_iff hdis
      obtain ⟨hfit, h⟩ := h
      obtain ⟨x0, hx0, _, hf0⟩ := fitVC_out hfit
      refine wp_loop_ghost (fun n a' w' => ∃ x loc', an.inv x ∧ an.meas x = n ∧ headOK an st (writes anns cur b) x = true ∧
        (vc cx anns b cur (headSt2 an st x) fun e st' => match e with
            | .normal => match presentB st'.env an.keep with
              | true => fitVC an st st' fun x' => an.meas x' < an.meas x
              | false => .ff
            | e => K e st').holds ∧
        Good cx.eT X (sit O (headSt2 an st x) loc' w') ∧ ActR cx (sit O (headSt2 an st x) loc' w') (headSt2 an st x) a' ∧ Tr (sit O st loc w) (sit O (headSt2 an st x) loc' w')) (an.meas x0) ?_ ?_
      · have hx := h x0 hx0
        split at hx
        case h_2 => exact hx.elim
        rename_i hok2
        obtain ⟨loc', m1, m2, m3⟩ := head2_rel (an := an) (st := st) x0 g hA (Tr.refl _) hok2 (fun n hn v hv => ⟨v, hv, sameSV_refl v⟩) hf0
        exact ⟨x0, loc', hx0, rfl, hok2, hx, m1, m2, m3⟩
      · rintro n a1 w1 ⟨x, loc1, hx, hn, hokx, hvc, g1, hA1, tr1⟩
        refine wp_mono (ih cur hA1 g1 (hO.tr tr1.size) hvc) ?_
        intro e a2 w2 hq
        have up : ∀ Kx : St → VC, StepK cx X O Kx (writes anns cur b) (headSt2 an st x) (sit O (headSt2 an st x) loc1 w1) a2 w2 → StepK cx X O Kx (writes anns cur (.loop b)) st (sit O st loc w) a2 w2 := by
          rintro Kx ⟨st2, loc2, k1, k2, k3, k4, k5⟩
          exact ⟨st2, loc2, k1, k2, tr1.trans k3, k4, fun hm => by rw [hwl] at hm; exact absurd (List.mem_cons_self) hm⟩
        cases e with
        | normal =>
          obtain ⟨st2, loc2, k1, k2, k3, k4, k5⟩ := hq
          simp only at k1
          split at k1
          case h_2 => exact k1.elim
          rename_i hpres
          obtain ⟨x', hx', hlt, hf'⟩ := fitVC_out k1
          have hvx := h x' hx'
          split at hvx
          case h_2 => exact hvx.elim
          rename_i hok2
          refine ⟨an.meas x', by rw [← hn]; exact hlt, ?_⟩
          obtain ⟨loc', m1, m2, m3⟩ := head2_rel (an := an) (st := st) x' k2 k4 (tr1.trans k3) hok2 (fun n hn v hv => by
            obtain ⟨v', hv'⟩ := presentB_look hpres hn
            have h1 := k5 (hkeepW n hn).1 n (hkeepW n hn).2 v' hv'
            refine ⟨v', hv', ?_⟩
            have h2 := head2_kept hokx hn h1 (hkeepW n hn).2
            rw [hv] at h2; cases h2
            exact sameSV_refl v) hf'
          exact ⟨x', loc', hx', rfl, hok2, hvx, m1, m2, m3⟩
        | exit i => exact up _ hq
        | ret => exact up _ hq
        | goto l => exact hq.elim
        | panic c => exact hq.elim
        | outgrown => exact hq.elim
  | rangeFunc f ps as b _ _ => intro cur st loc w a K _ _ _ h; exact h.elim
  | exit id => intro cur st loc w a K hA g hO h; exact wp_exit ⟨st, loc, h, g, Tr.refl _, hA, fun _ _ _ _ h => h⟩
  | scope b _ => intro cur st loc w a K _ _ _ h; exact h.elim
  | label l => intro cur st loc w a K _ _ _ h; exact h.elim
  | goto l => intro cur st loc w a K _ _ _ h; exact h.elim
  | ret => intro cur st loc w a K hA g hO h; exact wp_ret ⟨st, loc, h, g, Tr.refl _, hA, fun _ _ _ _ h => h⟩
  | refuse why => intro cur st loc w a K _ _ _ h; exact h.elim
end
end Go.Vg
