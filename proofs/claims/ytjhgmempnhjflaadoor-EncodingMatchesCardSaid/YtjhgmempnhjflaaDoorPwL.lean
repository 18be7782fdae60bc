/-
  PW, part L: an operation; a region.
-/
import Derived.Test.YtjhgmempnhjflaaDoorPwK
import Derived.Laws.Small
namespace Go.Pw
open Go Go.RowKit

section
variable {P : Program} {W0 w : World} {h : Hp} {m : Loc} {N : Slot → Hp → Prop} {n : Nat} {σ : St} {a : Act}

/-- What an operation's run comes to. -/
def Runs (P : Program) (o : Oper) (ρ : Operand → Value) (w : World) (S : Value → World → Prop) : Prop :=
  match (execOp ρ o).run P w with
  | .ok (.value v) w' => S v w'
  | .ok .skip w' => S undef w'
  | .ok (.enter f args) w' => Calls P f args w' fun e w'' => ∃ v, e = .returned v ∧ S v w''
  | _ => False

theorem Runs.wp {o : Oper} {next : Act → World → Prop} {Q : Exit → Act → World → Prop} {S : Value → World → Prop} (H : Runs P o a.eval w S) (hs : ∀ v w', S v w' → next (a.put o.dst v) w') : o.wp P a w next Q := by
  unfold Runs at H
  unfold Oper.wp
  split at H
  · rename_i v w' hr
    rw [hr]
    exact hs _ _ H
  · rename_i w' hr
    rw [hr]
    exact hs _ _ H
  · rename_i f args w' hr
    rw [hr]
    refine H.mono ?_
    rintro e w'' ⟨v, rfl, hS⟩
    exact hs _ _ hS
  · exact H.elim

theorem Runs.value {o : Oper} {ρ : Operand → Value} {S : Value → World → Prop} {v : Value} {w' : World} (hr : (execOp ρ o).run P w = .ok (.value v) w') (H : S v w') : Runs P o ρ w S := by
  unfold Runs
  rw [hr]
  exact H

theorem Runs.skip {o : Oper} {ρ : Operand → Value} {S : Value → World → Prop} {w' : World} (hr : (execOp ρ o).run P w = .ok .skip w') (H : S undef w') : Runs P o ρ w S := by
  unfold Runs
  rw [hr]
  exact H

theorem Runs.enter {o : Oper} {ρ : Operand → Value} {S : Value → World → Prop} {f : FuncId} {args : Array Value} {w' : World} (hr : (execOp ρ o).run P w = .ok (.enter f args) w') (H : Calls P f args w' fun e w'' => ∃ v, e = .returned v ∧ S v w'') : Runs P o ρ w S := by
  unfold Runs
  rw [hr]
  exact H

def popBin (P : Program) (t : TypeId) (op : BinOp) (x y : Slot) (N : Value → Prop) : Prop :=
  match x, y with
  | .sv (.one (.val a)), .sv (.one (.val b)) => binK (P.underlying t) op a b N
  | .sv (.one (.ptr _ _ _ _)), .sv (.one (.val (.pointer none))) => isPtr (P.underlying t) ∧ eqK op false N
  | .sv (.one (.rop _)), .sv (.one (.val (.pointer none))) => isPtr (P.underlying t) ∧ eqK op false N
  | _, _ => False

def svs (σ : St) (xs : List Operand) : Option (List SV) := xs.mapM fun x => match σ.eval x with | .sv s => some s | _ => none

def onesOf (σ : St) (xs : List Operand) : Option (List PV) := xs.mapM fun x => match σ.eval x with | .sv (.one p) => some p | _ => none

def popBuiltin (P : Program) (b : Builtin) (ts : List TypeId) (xs : List Slot) (h : Hp) (N : Slot → Hp → Prop) : Prop :=
  match b, ts, xs with
  | .len, [t], [x] => popLen P t x (fun v => N (.sv (.one (.val v))) h)
  | .append, [t, u], [s, x] => t = u ∧ popAppend P t s x h N
  | .min, _, [.sv (.one (.val (.int k x))), .sv (.one (.val (.int _ y)))] => N (.sv (.one (.val (.int k (if y < x then y else x))))) h
  | .max, _, [.sv (.one (.val (.int k x))), .sv (.one (.val (.int _ y)))] => N (.sv (.one (.val (.int k (if y > x then y else x))))) h
  | _, _, _ => False

def popCall (P : Program) (W0 : World) (c : Call) (σ : St) (N : Slot → Hp → Prop) : Prop :=
  match c.callee with
  | .value f => (match σ.eval f with
    | .sv (.one (.clo (.func k) caps)) => (match svs σ c.args.toList with
      | some args => PCalls P W0 k (args ++ caps.map .one) σ.hp N
      | none => False)
    | _ => False)
  | .builtin b => popBuiltin P b c.argTypes.toList (c.args.toList.map σ.eval) σ.hp N
  | _ => False

def pop (P : Program) (W0 : World) (σ : St) (o : Oper) (N : Slot → Hp → Prop) : Prop :=
  match o.op with
  | .move x => N (σ.eval x) σ.hp
  | .assign x => N (σ.eval x) σ.hp
  | .pick c a b => (match σ.eval c with | .sv (.one (.val (.bool t))) => (t = true → N (σ.eval a) σ.hp) ∧ (t = false → N (σ.eval b) σ.hp) | _ => False)
  | .binOp op t x y _ => popBin P t op (σ.eval x) (σ.eval y) (fun v => N (.sv (.one (.val v))) σ.hp)
  | .unOp op _ x => (match σ.eval x with | .sv (.one (.val a)) => unK op a (fun v => N (.sv (.one (.val v))) σ.hp) | _ => False)
  | .convert s d x => popConvert P s d (σ.eval x) σ.hp N
  | .load t x => popLoad P W0 t (σ.eval x) σ.hp N
  | .store t x y => popStore P t (σ.eval x) (σ.eval y) σ.hp N
  | .alloc t => popAlloc P t σ.hp N
  | .box t x => popBox t (σ.eval x) σ.hp N ∨ popBoxRo (σ.eval x) σ.hp N
  | .build t parts => popBuild P t (parts.toList.map fun x => (x.1, σ.eval x.2)) (fun s => N s σ.hp)
  | .buildSlice t len parts => popBuildSlice P t len (parts.toList.map fun x => (x.1, σ.eval x.2)) (fun s => N s σ.hp)
  | .makeSlice t l c => popMakeSlice P t (σ.eval l) (σ.eval c) σ.hp N
  | .slice t x lo hi none => popSlice P t (σ.eval x) (lo.map σ.eval) (hi.map σ.eval) σ.hp (fun s => N s σ.hp)
  | .fieldAddr t x f => popFieldAddr P t (σ.eval x) f (fun s => N s σ.hp)
  | .field t x f => popField P t (σ.eval x) f (fun s => N s σ.hp)
  | .indexAddr t x ix => popIndexAddr P t (σ.eval x) (σ.eval ix) σ.hp (fun s => N s σ.hp)
  | .index t x ix => popIndex P t (σ.eval x) (σ.eval ix) (fun s => N s σ.hp)
  | .extract x j => (match σ.eval x with | .tup ss => (match ss[j]? with | some s => N (.sv s) σ.hp | none => False) | _ => False)
  | .nilCheck x => (match σ.eval x with
    | .sv (.one (.ptr id ver i o)) => N (.sv (.one (.ptr id ver i o))) σ.hp
    | .sv (.one (.rop cs)) => N (.sv (.one (.rop cs))) σ.hp
    | .sv (.one (.clo (.func k) cs)) => N (.sv (.one (.clo (.func k) cs))) σ.hp
    | .sv (.one (.val (.pointer (some ad)))) => N (.sv (.one (.val (.pointer (some ad))))) σ.hp
    | _ => False)
  | .makeFunc fn first caps => first = #[] ∧ (match onesOf σ caps.toList with | some ps => N (.sv (.one (.clo fn ps))) σ.hp | none => False)
  | .call c => popCall P W0 c σ N
  | _ => False

theorem svs_ok {W0 we : World} {he : Hp} {me : Loc} (R : Rel W0 we he me n σ a w m) : ∀ {xs : List Operand} {args : List SV}, svs σ xs = some args →
    (xs.map a.eval).length = args.length ∧ ∀ (j : Nat) (s : SV) (v : Value), args[j]? = some s → (xs.map a.eval)[j]? = some v → SVR w σ.hp m s v
  | [], args, hs => by
    simp [svs] at hs
    subst hs
    exact ⟨rfl, fun j s v h1 => by simp at h1⟩
  | x :: xs, args, hs => by
    simp only [svs, List.mapM_cons, Option.bind_eq_bind, Option.pure_def] at hs
    obtain ⟨s, h1, hs⟩ := Option.bind_eq_some_iff.1 hs
    obtain ⟨rest, h2, hs⟩ := Option.bind_eq_some_iff.1 hs
    obtain rfl := Option.some.inj hs
    obtain ⟨a1, a2⟩ := svs_ok R (xs := xs) h2
    refine ⟨by simpa using a1, fun j s' v hj hv => ?_⟩
    cases j with
    | zero =>
      simp at hj hv
      subst hj
      subst hv
      have := R.eval x
      split at h1
      · rename_i s0 e
        rw [e] at this
        obtain rfl := Option.some.inj h1
        exact this
      · cases h1
    | succ j => exact a2 j s' v (by simpa using hj) (by simpa using hv)

theorem onesOf_ok {W0 we : World} {he : Hp} {me : Loc} (R : Rel W0 we he me n σ a w m) : ∀ {xs : List Operand} {ps : List PV}, onesOf σ xs = some ps →
    (xs.map a.eval).length = ps.length ∧ ∀ (j : Nat) (p : PV) (v : Value), ps[j]? = some p → (xs.map a.eval)[j]? = some v → VR w σ.hp m p v
  | [], args, hs => by
    simp [onesOf] at hs
    subst hs
    exact ⟨rfl, fun j s v h1 => by simp at h1⟩
  | x :: xs, args, hs => by
    simp only [onesOf, List.mapM_cons, Option.bind_eq_bind, Option.pure_def] at hs
    obtain ⟨s, h1, hs⟩ := Option.bind_eq_some_iff.1 hs
    obtain ⟨rest, h2, hs⟩ := Option.bind_eq_some_iff.1 hs
    obtain rfl := Option.some.inj hs
    obtain ⟨a1, a2⟩ := onesOf_ok R (xs := xs) h2
    refine ⟨by simpa using a1, fun j s' v hj hv => ?_⟩
    cases j with
    | zero =>
      simp at hj hv
      subst hj
      subst hv
      have := R.eval x
      split at h1
      · rename_i s0 e
        rw [e] at this
        obtain rfl := Option.some.inj h1
        exact this
      · cases h1
    | succ j => exact a2 j s' v (by simpa using hj) (by simpa using hv)

theorem parts_ok {W0 we : World} {he : Hp} {me : Loc} (R : Rel W0 we he me n σ a w m) (parts : List (Nat × Operand)) :
    (parts.map fun x => (x.1, σ.eval x.2)).length = (parts.map fun x => (x.1, a.eval x.2)).length ∧
    ∀ (i : Nat) (x : Nat × Slot) (y : Nat × Value), (parts.map fun x => (x.1, σ.eval x.2))[i]? = some x → (parts.map fun x => (x.1, a.eval x.2))[i]? = some y → x.1 = y.1 ∧ LR w σ.hp m x.2 y.2 := by
  refine ⟨by simp, fun i x y hx hy => ?_⟩
  simp only [List.getElem?_map] at hx hy
  cases hp : parts[i]? with
  | none => simp [hp] at hx
  | some p =>
    simp only [hp, Option.map_some, Option.some.injEq] at hx hy
    subst hx
    subst hy
    exact ⟨rfl, R.eval p.2⟩

theorem pop_ok {W0 we : World} {he : Hp} {me : Loc} {o : Oper} (R : Rel W0 we he me n σ a w m) (hk : pop P W0 σ o N) : Runs P o a.eval w (OpOut W0 w σ.hp m N) := by
  unfold pop at hk
  split at hk
  · rename_i x ho
    exact Runs.value (v := a.eval x) (w' := w) (by simp [execOp, ho]) (OpOut.same R.hr hk (R.eval x))
  · rename_i x ho
    exact Runs.value (v := a.eval x) (w' := w) (by simp [execOp, ho]) (OpOut.same R.hr hk (R.eval x))
  · rename_i c x y ho
    split at hk
    · rename_i t hc
      have hcv := R.eval c
      rw [hc] at hcv
      have hv : a.eval c = .bool t := by
        generalize a.eval c = v at hcv
        cases hcv
        rfl
      cases t with
      | true => exact Runs.value (v := a.eval x) (w' := w) (by simp [execOp, ho, hv, asBool]) (OpOut.same R.hr (hk.1 rfl) (R.eval x))
      | false => exact Runs.value (v := a.eval y) (w' := w) (by simp [execOp, ho, hv, asBool]) (OpOut.same R.hr (hk.2 rfl) (R.eval y))
    · exact hk.elim
  · rename_i op t x y t2 ho
    have hx := R.eval x
    have hy := R.eval y
    unfold popBin at hk
    split at hk
    · rename_i u v hu hv
      rw [hu] at hx
      rw [hv] at hy
      have eu : a.eval x = u := by cases hx; rfl
      have ev : a.eval y = v := by cases hy; rfl
      obtain ⟨r, h1, h2, h3⟩ := binK_ok hk
      exact Runs.value (v := r) (w' := w) (by simp only [execOp, ho, eu, ev, Sem.run_bind, eqGuard_ok hk x y w, h3 w, Result.andThen_ok, Sem.run_pure]) (OpOut.same R.hr h1 (.val r h2))
    · rename_i id ver i o' hu hv
      rw [hu] at hx
      rw [hv] at hy
      obtain ⟨hd, hk⟩ := hk
      have ev : a.eval y = .pointer none := by generalize a.eval y = q at hy; cases hy; rfl
      obtain ⟨ad, eu⟩ : ∃ ad, a.eval x = .pointer (some ad) := by generalize a.eval x = q at hx; cases hx; exact ⟨_, rfl⟩
      obtain ⟨r, h1, h2, h3⟩ := ptrNil_ok (P := P) (ad := ad) hd hk x y
      have h3' := h3 w
      exact Runs.value (v := r) (w' := w) (by simp only [execOp, ho, eu, ev, Sem.run_bind, Sem.run_pure] at h3' ⊢; rw [h3']; rfl) (OpOut.same R.hr h1 (.val r h2))
    · rename_i cs hu hv
      rw [hu] at hx
      rw [hv] at hy
      obtain ⟨hd, hk⟩ := hk
      have ev : a.eval y = .pointer none := by generalize a.eval y = q at hy; cases hy; rfl
      obtain ⟨ad, eu⟩ : ∃ ad, a.eval x = .pointer (some ad) := by generalize a.eval x = q at hx; cases hx; exact ⟨_, rfl⟩
      obtain ⟨r, h1, h2, h3⟩ := ptrNil_ok (P := P) (ad := ad) hd hk x y
      have h3' := h3 w
      exact Runs.value (v := r) (w' := w) (by simp only [execOp, ho, eu, ev, Sem.run_bind, Sem.run_pure] at h3' ⊢; rw [h3']; rfl) (OpOut.same R.hr h1 (.val r h2))
    · exact hk.elim
  · rename_i op t x ho
    have hx := R.eval x
    split at hk
    · rename_i u hu
      rw [hu] at hx
      have eu : a.eval x = u := by cases hx; rfl
      obtain ⟨r, h1, h2, h3⟩ := unK_ok (P := P) hk
      exact Runs.value (v := r) (w' := w) (by simp only [execOp, ho, eu, Sem.run_bind, h3 w, Result.andThen_ok, Sem.run_pure]) (OpOut.same R.hr h1 (.val r h2))
    · exact hk.elim
  · rename_i s d x ho
    obtain ⟨v, w', h1, h2⟩ := popConvert_ok (P := P) R.hr hk (R.eval x)
    exact Runs.value (by simp only [execOp, ho, Sem.run_bind, h1, Result.andThen_ok, Sem.run_pure]) h2
  · rename_i t x ho
    obtain ⟨v, h1, h2⟩ := popLoad_ok (P := P) R.hr hk (R.eval x)
    exact Runs.value (by simp only [execOp, ho, Sem.run_bind, h1, Result.andThen_ok, Sem.run_pure]) h2
  · rename_i t x y ho
    obtain ⟨w', h1, h2⟩ := popStore_ok (P := P) R.hr hk (R.eval x) (R.eval y)
    exact Runs.skip (by simp only [execOp, ho, Sem.run_bind, h1, Result.andThen_ok, Sem.run_pure]) h2
  · rename_i t ho
    obtain ⟨v, w', h1, h2⟩ := popAlloc_ok (P := P) R.hr hk
    exact Runs.value (by simp only [execOp, ho, Sem.run_bind, h1, Result.andThen_ok, Sem.run_pure]) h2
  · rename_i t x ho
    rcases hk with hk | hk
    · obtain ⟨v, w', h1, h2⟩ := popBox_ok (P := P) R.hr hk (R.eval x)
      exact Runs.value (by simp only [execOp, ho, Sem.run_bind, h1, Result.andThen_ok, Sem.run_pure]) h2
    · obtain ⟨v, w', h1, h2⟩ := popBoxRo_ok (P := P) (t := t) R.hr hk (R.eval x)
      exact Runs.value (by simp only [execOp, ho, Sem.run_bind, h1, Result.andThen_ok, Sem.run_pure]) h2
  · rename_i t parts ho
    obtain ⟨p1, p2⟩ := parts_ok R parts.toList
    obtain ⟨v, r, h1, h2, h3⟩ := popBuild_ok (P := P) hk p1 p2
    have e : (parts.map fun (x : Nat × Operand) => (x.1, a.eval x.2)) = (parts.toList.map fun x => (x.1, a.eval x.2)).toArray := by cases parts; simp
    exact Runs.value (v := v) (w' := w) (by simp only [execOp, ho, Sem.run_bind, e, h1, Result.andThen_ok, Sem.run_pure]) (OpOut.same R.hr h2 h3)
  · rename_i t len parts ho
    obtain ⟨p1, p2⟩ := parts_ok R parts.toList
    obtain ⟨v, w', h1, h2⟩ := popBuildSlice_ok (P := P) R.hr hk p1 p2
    have e : (parts.map fun (x : Nat × Operand) => (x.1, a.eval x.2)) = (parts.toList.map fun x => (x.1, a.eval x.2)).toArray := by cases parts; simp
    exact Runs.value (by simp only [execOp, ho, Sem.run_bind, e, h1, Result.andThen_ok, Sem.run_pure]) h2
  · rename_i t l c ho
    obtain ⟨v, w', h1, h2⟩ := popMakeSlice_ok (P := P) R.hr hk (R.eval l) (R.eval c)
    exact Runs.value (by simp only [execOp, ho, Sem.run_bind, h1, Result.andThen_ok, Sem.run_pure]) h2
  · rename_i t x lo hi ho
    have ex : ∀ (o : Option Operand) (s : Slot), o.map σ.eval = some s → ∃ v, o.map a.eval = some v ∧ LR w σ.hp m s v := fun o s hs => by
      obtain ⟨y, rfl, rfl⟩ := Option.map_eq_some_iff.1 hs
      exact ⟨_, rfl, R.eval y⟩
    have en : ∀ o : Option Operand, o.map σ.eval = none → o.map a.eval = none := fun o hs => by simpa using hs
    obtain ⟨v, r, h1, h2, h3⟩ := popSlice_ok (P := P) R.hr hk (R.eval x) (ex lo) (en lo) (ex hi) (en hi)
    exact Runs.value (v := v) (w' := w) (by simp only [execOp, ho, Sem.run_bind, Option.map_none, h1, Result.andThen_ok, Sem.run_pure]) (OpOut.same R.hr h2 h3)
  · rename_i t x f ho
    obtain ⟨v, r, h1, h2, h3⟩ := popFieldAddr_ok (P := P) hk (R.eval x)
    exact Runs.value (v := v) (w' := w) (by simp only [execOp, ho, Sem.run_bind, h1, Result.andThen_ok, Sem.run_pure]) (OpOut.same R.hr h2 h3)
  · rename_i t x f ho
    obtain ⟨v, r, h1, h2, h3⟩ := popField_ok (P := P) hk (R.eval x)
    exact Runs.value (v := v) (w' := w) (by simp only [execOp, ho, Sem.run_bind, h1, Result.andThen_ok, Sem.run_pure]) (OpOut.same R.hr h2 h3)
  · rename_i t x ix ho
    obtain ⟨v, r, h1, h2, h3⟩ := popIndexAddr_ok (P := P) hk (R.eval x) (R.eval ix)
    exact Runs.value (v := v) (w' := w) (by simp only [execOp, ho, Sem.run_bind, h1, Result.andThen_ok, Sem.run_pure]) (OpOut.same R.hr h2 h3)
  · rename_i t x ix ho
    obtain ⟨v, r, h1, h2, h3⟩ := popIndex_ok (P := P) hk (R.eval x) (R.eval ix)
    exact Runs.value (v := v) (w' := w) (by simp only [execOp, ho, Sem.run_bind, h1, Result.andThen_ok, Sem.run_pure]) (OpOut.same R.hr h2 h3)
  · rename_i x j ho
    have hx := R.eval x
    split at hk
    · rename_i ss hss
      rw [hss] at hx
      split at hk
      · rename_i s hs
        obtain ⟨vs, e, hl, hv⟩ := hx
        have hlt : j < vs.length := by have := (List.getElem?_eq_some_iff.1 hs).1; omega
        exact Runs.value (v := vs[j]) (w' := w) (by simp [execOp, ho, e, Instr.extract, hlt]) (OpOut.same R.hr hk (hv j s vs[j] hs (List.getElem?_eq_getElem hlt)))
      · exact hk.elim
    · exact hk.elim
  · rename_i x ho
    have hx := R.eval x
    split at hk
    · rename_i id ver i o' e
      rw [e] at hx
      obtain ⟨ad, eu⟩ : ∃ ad, a.eval x = .pointer (some ad) := by generalize a.eval x = q at hx; cases hx; exact ⟨_, rfl⟩
      exact Runs.value (v := a.eval x) (w' := w) (by simp [execOp, ho, eu]) (OpOut.same R.hr hk hx)
    · rename_i cs e
      rw [e] at hx
      obtain ⟨ad, eu⟩ : ∃ ad, a.eval x = .pointer (some ad) := by generalize a.eval x = q at hx; cases hx; exact ⟨_, rfl⟩
      exact Runs.value (v := a.eval x) (w' := w) (by simp [execOp, ho, eu]) (OpOut.same R.hr hk hx)
    · rename_i k cs e
      rw [e] at hx
      obtain ⟨vs, eu⟩ : ∃ vs, a.eval x = .func (.func k) #[] vs := by generalize a.eval x = q at hx; cases hx; exact ⟨_, rfl⟩
      exact Runs.value (v := a.eval x) (w' := w) (by simp [execOp, ho, eu]) (OpOut.same R.hr hk hx)
    · rename_i ad e
      rw [e] at hx
      have eu : a.eval x = .pointer (some ad) := by generalize a.eval x = q at hx; cases hx; rfl
      exact Runs.value (v := a.eval x) (w' := w) (by simp [execOp, ho, eu]) (OpOut.same R.hr hk hx)
    · exact hk.elim
  · rename_i fn first caps ho
    obtain ⟨rfl, hk⟩ := hk
    split at hk
    · rename_i ps hps
      obtain ⟨h1, h2⟩ := onesOf_ok R hps
      have e : caps.map a.eval = (caps.toList.map a.eval).toArray := by cases caps; simp
      exact Runs.value (v := .func fn #[] (caps.toList.map a.eval).toArray) (w' := w) (by simp only [execOp, ho, Instr.makeFunc, Sem.run_bind, Sem.run_pure, Result.andThen_ok, ← e]; simp) (OpOut.same R.hr hk (.clo fn ps _ h1 h2))
    · exact hk.elim
  · rename_i c ho
    unfold popCall at hk
    split at hk
    · rename_i f hc
      split at hk
      · rename_i k caps hf
        split at hk
        · rename_i args hargs
          obtain ⟨⟨fn, hfn, hbody, hname⟩, hk⟩ := hk
          have hfv := R.eval f
          rw [hf] at hfv
          obtain ⟨a1, a2⟩ := svs_ok R hargs
          generalize hq : a.eval f = q at hfv
          cases hfv with
          | clo _ _ vs hl hvs =>
            have hall : ∀ (j : Nat) (s : SV) (v : Value), (args ++ caps.map .one)[j]? = some s → (c.args.toList.map a.eval ++ vs)[j]? = some v → SVR w σ.hp m s v := fun j s v hj hv => by
              rw [List.getElem?_append] at hj hv
              rw [a1] at hv
              split at hj
              · rename_i hlt
                rw [if_pos hlt] at hv
                exact a2 j s v hj hv
              · rename_i hlt
                rw [if_neg hlt] at hv
                rw [List.getElem?_map] at hj
                obtain ⟨p, hp, rfl⟩ := Option.map_eq_some_iff.1 hj
                exact hvs _ p v hp hv
            have hcall := hk w m (c.args.toList.map a.eval ++ vs) R.hr (by simp only [List.length_append, List.length_map] at a1 ⊢; omega) hall
            refine Runs.enter (f := k) (args := (c.args.toList.map a.eval ++ vs).toArray) (w' := w) ?_ (hcall.mono ?_)
            · have hargsA : c.args.map a.eval ++ vs.toArray = (c.args.toList.map a.eval ++ vs).toArray := by
                apply Array.ext'
                simp
              have hb : fn.body.isNone = false := by cases hbn : fn.body <;> simp [hbn] at hbody ⊢
              simp only [execOp, ho, resolve, hc, hq, Deferred.ofValue, Sem.run_bind, Sem.run_pure, Result.andThen_ok, invoke, callFunc, run_program, hfn, hname, Bool.false_eq_true, if_false, hb, Array.empty_append, hargsA]
            · rintro e w'' ⟨v, r, h', m', rfl, b1, b2, b3, b4⟩
              exact ⟨v, rfl, r, h', m', b1, b2, b3, b4⟩
        · exact hk.elim
      · exact hk.elim
    · rename_i b hc
      unfold popBuiltin at hk
      split at hk
      · rename_i t x hts hxs
        obtain ⟨y, ey⟩ : ∃ y, c.args.toList = [y] := by
          match hcl : c.args.toList, hxs with
          | [y], _ => exact ⟨y, rfl⟩
          | [], h => simp at h
          | _ :: _ :: _, h => simp at h
        rw [ey] at hxs
        simp only [List.map_cons, List.map_nil, List.cons.injEq, and_true] at hxs
        subst hxs
        obtain ⟨v, h1, h2, h3⟩ := popLen_ok (P := P) (ty := o.type) hk (R.eval y)
        have ea : c.args = #[y] := by rw [← Array.toList_inj, ey]
        have et : c.argTypes = #[t] := by rw [← Array.toList_inj, hts]
        exact Runs.value (v := v) (w' := w) (by simp only [execOp, ho, resolve, hc, Sem.run_bind, Sem.run_pure, Result.andThen_ok, invoke, builtin, ea, et, List.map_toArray, List.map_cons, List.map_nil, h3]) (OpOut.same R.hr h1 (.val v h2))
      · rename_i t u s x hts hxs
        obtain ⟨rfl, hk⟩ := hk
        obtain ⟨y, z, ey⟩ : ∃ y z, c.args.toList = [y, z] := by
          match hcl : c.args.toList, hxs with
          | [y, z], _ => exact ⟨y, z, rfl⟩
          | [], h => simp at h
          | [_], h => simp at h
          | _ :: _ :: _ :: _, h => simp at h
        rw [ey] at hxs
        simp only [List.map_cons, List.map_nil, List.cons.injEq, and_true] at hxs
        obtain ⟨rfl, rfl⟩ := hxs
        obtain ⟨v, w', h1, h2⟩ := popAppend_ok (P := P) (ty := o.type) R.hr hk (R.eval y) (R.eval z)
        have ea : c.args = #[y, z] := by rw [← Array.toList_inj, ey]
        have et : c.argTypes = #[t, t] := by rw [← Array.toList_inj, hts]
        exact Runs.value (by simp only [execOp, ho, resolve, hc, Sem.run_bind, Sem.run_pure, Result.andThen_ok, invoke, builtin, ea, et, List.map_toArray, List.map_cons, List.map_nil, h1]) h2
      · rename_i k x k2 x2 hxs
        obtain ⟨y, z, ey⟩ : ∃ y z, c.args.toList = [y, z] := by
          match hcl : c.args.toList, hxs with
          | [y, z], _ => exact ⟨y, z, rfl⟩
          | [], h => simp at h
          | [_], h => simp at h
          | _ :: _ :: _ :: _, h => simp at h
        rw [ey] at hxs
        simp only [List.map_cons, List.map_nil, List.cons.injEq, and_true] at hxs
        have hy := R.eval y
        have hz := R.eval z
        rw [hxs.1] at hy
        rw [hxs.2] at hz
        have e1 : a.eval y = .int k x := by generalize a.eval y = q at hy; cases hy; rfl
        have e2 : a.eval z = .int k2 x2 := by generalize a.eval z = q at hz; cases hz; rfl
        have ea : c.args = #[y, z] := by rw [← Array.toList_inj, ey]
        exact Runs.value (w' := w) (by simp only [execOp, ho, resolve, hc, Sem.run_bind, Sem.run_pure, Result.andThen_ok, invoke, builtin, ea, List.map_toArray, List.map_cons, List.map_nil, e1, e2, run_min_int2]) (OpOut.same R.hr hk (.val _ rfl))
      · rename_i k x k2 x2 hxs
        obtain ⟨y, z, ey⟩ : ∃ y z, c.args.toList = [y, z] := by
          match hcl : c.args.toList, hxs with
          | [y, z], _ => exact ⟨y, z, rfl⟩
          | [], h => simp at h
          | [_], h => simp at h
          | _ :: _ :: _ :: _, h => simp at h
        rw [ey] at hxs
        simp only [List.map_cons, List.map_nil, List.cons.injEq, and_true] at hxs
        have hy := R.eval y
        have hz := R.eval z
        rw [hxs.1] at hy
        rw [hxs.2] at hz
        have e1 : a.eval y = .int k x := by generalize a.eval y = q at hy; cases hy; rfl
        have e2 : a.eval z = .int k2 x2 := by generalize a.eval z = q at hz; cases hz; rfl
        have ea : c.args = #[y, z] := by rw [← Array.toList_inj, ey]
        exact Runs.value (w' := w) (by simp only [execOp, ho, resolve, hc, Sem.run_bind, Sem.run_pure, Result.andThen_ok, invoke, builtin, ea, List.map_toArray, List.map_cons, List.map_nil, e1, e2, run_max_int2]) (OpOut.same R.hr hk (.val _ rfl))
      · exact hk.elim
    · exact hk.elim
  · exact hk.elim

end
end Go.Pw
