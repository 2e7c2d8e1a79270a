/- The evaluator with some calls told by a contract: what they hand back is known, and nothing old is touched. -/
import Derived.Test.YtcjidlgmbjebjaaDoorEvD
set_option linter.unusedVariables false
set_option linter.unusedSimpArgs false
namespace Go.Proofs.YtcjidlgmbjebjaaDoor.Ev
open Go
noncomputable section
/-- A call whose answer is known. -/
structure Pu where
  f : Nat
  args : List V
  v : V
def puFind : List Pu → Nat → List V → Option V
  | [], _, _ => none
  | e :: r, f, args =>
    match Nat.beq e.f f with
    | false => puFind r f args
    | true =>
      match vsEq (vEq 50) e.args args with
      | true => some e.v
      | false => puFind r f args
theorem puFind_ok : ∀ {l : List Pu} {f : Nat} {args : List V} {v : V}, puFind l f args = some v → ∃ e ∈ l, e.f = f ∧ e.args = args ∧ e.v = v
  | [], _, _, _, h => by cases h
  | e :: r, f, args, v, h => by
    rw [puFind] at h
    cases hb : Nat.beq e.f f with
    | false =>
      rw [hb] at h
      obtain ⟨e', h1, h2⟩ := puFind_ok h
      exact ⟨e', List.mem_cons_of_mem _ h1, h2⟩
    | true =>
      rw [hb] at h
      simp only at h
      cases hc : vsEq (vEq 50) e.args args with
      | false =>
        rw [hc] at h
        obtain ⟨e', h1, h2⟩ := puFind_ok h
        exact ⟨e', List.mem_cons_of_mem _ h1, h2⟩
      | true =>
        rw [hc] at h
        exact ⟨e, List.mem_cons_self .., of_beq_t hb, vsEq_ok (vEq_ok 50) _ _ hc, Option.some.inj h⟩
def stepP (ps : List Pu) (t : Task) : Env → Rec → Heap → Option Out :=
  match t with
  | .code q c fr => fun E rec_ H => codeQ c E rec_ q fr H
  | .again q c fr => fun _ rec_ H => (runCode rec_ q c fr H).bind fun s => thenV s fun fr H => rec_ (.again q c fr) H
  | .within q body c fr => fun _ rec_ H => withinV rec_ q body c fr H
  | .call f args df => fun E rec_ H =>
    match df with
    | true => callV E rec_ f args true H
    | false =>
      match puFind ps f args with
      | some v => some (.call v H)
      | none => callV E rec_ f args false H
def evalP (ps : List Pu) (E : Env) : Nat → Rec
  | 0 => fun _ _ => none
  | n + 1 => fun t H => stepP ps t E (evalP ps E n) H
section
variable {E : Env} {P : Program}
def PuOk (E : Env) (P : Program) (ps : List Pu) : Prop := ∀ e ∈ ps, ∀ H, CallOk E P e.f e.args false H e.v H
theorem evalP_ok (hE : EnvOk E P) {ps : List Pu} (hm : PuOk E P ps) : ∀ n, RecOk E P (evalP ps E n)
  | 0 => ⟨fun _ _ _ _ _ _ _ h => (by cases h), fun _ _ _ _ _ _ _ h => (by cases h), fun _ _ _ _ _ _ _ _ h => (by cases h), fun _ _ _ _ _ _ h => (by cases h)⟩
  | n + 1 => by
    have ih := evalP_ok hE hm n
    refine ⟨fun q c fr H x fr' H' h => codeV_ok hE ih (by rw [← codeQ_eq]; exact h), ?_, fun q body c fr H x fr' H' h φ W b a k cs hs hf hk => withinV_ok ih (h : withinV (evalP ps E n) q body c fr H = _) k hs hf hk, ?_⟩
    · intro q c fr H x fr' H' h φ W b a k cs hs hf hk
      have h : ((runCode (evalP ps E n) q c fr H).bind fun s => thenV s fun fr H => evalP ps E n (.again q c fr) H) = some (.code x fr' H') := h
      obtain ⟨s, hs1, h⟩ := Option.bind_eq_some_iff.1 h
      obtain ⟨φ', a', W', h1, h2, h3⟩ := then_ok ih hs1 (it := .inLoop c) rfl h (fun fr1 H1 hn => ih.again q c fr1 H1 _ _ _ hn) k hs hf hk
      exact ⟨φ', a', W', h1, h2, .of_steps (.one stepR_inLoop) h3⟩
    · intro f args df H v H' h φ W args' cs hs hg ha hdf
      cases df with
      | true => exact callV_ok hE ih (h : callV E (evalP ps E n) f args true H = _) hs hg ha hdf
      | false =>
        have h : (match puFind ps f args with
          | some v => some (Out.call v H)
          | none => callV E (evalP ps E n) f args false H) = some (.call v H') := h
        cases hf : puFind ps f args with
        | none => rw [hf] at h; exact callV_ok hE ih h hs hg ha hdf
        | some r =>
          rw [hf] at h
          simp only [Option.some.injEq, Out.call.injEq] at h
          obtain ⟨rfl, rfl⟩ := h
          obtain ⟨e, he, rfl, rfl, rfl⟩ := puFind_ok hf
          exact hm e he H φ W args' cs hs hg ha hdf
theorem calls_of_runP (hE : EnvOk E P) {ps : List Pu} (hm : PuOk E P ps) {φ : Pm} {H : Heap} {W : World} {n : Nat} {f : FuncId} {args : List V} {v : V} {H' : Heap} (h : evalP ps E n (.call f args false) H = some (.call v H'))
    {args' : Array Value} (hs : St E φ H W) (hg : GR E φ) (ha : VRs φ args args'.toList) (hro : ∀ b, ¬ Wr φ H.look b) :
    Calls P f args' W fun e W' => ∃ φ' v', e = .returned v' ∧ VR φ' v v' ∧ Go.RowKit.Below W.heap.size W W' := by
  intro cs
  obtain ⟨φ', v', W', fr, hto, hv, hst, hfn, hkd, hmd, hdf, fn, hpf, hres⟩ := (evalP_ok hE hm n).call f args false H v H' h φ W args' cs hs hg ha (fun e => by cases e)
  exact ⟨.returned v', W', fr, ⟨φ', v', rfl, hv, hto.fr.below hro⟩, hst, hfn, hmd, hdf, hkd, fn, hpf, hres⟩
/-- Nothing old has turned: the same heap tells of it. -/
theorem To.below {φ : Pm} {H : Heap} {W W' : World} (h : St E φ H W) (hb : Go.RowKit.Below W.heap.size W W') : To E φ H W φ H W' := by
  refine ⟨Le.refl _, Nat.le_refl _, ⟨h.dom, ?_, h.hr.inj, fun r o p ho hl hp => Nat.lt_of_lt_of_le (h.hr.lt r o p ho hl hp) hb.size⟩, ⟨hb.os, hb.tape, hb.output, hb.size, fun b hlt _ => hb.block b hlt, fun b hw => .inl hw⟩, fun _ _ => rfl⟩
  intro r o p ho hp
  by_cases hl : o.live = true
  · exact (h.hr.obj r o p ho hp).same (hb.block _ (h.hr.lt r o p ho hl hp))
  · cases o <;> simp [Obj.live] at hl
    trivial
/-- A contract is a call that is told. -/
theorem callOk_of_calls {f : FuncId} {args : List V} {v : V} (hc : ∀ (φ : Pm) (W : World) (args' : Array Value), VRs φ args args'.toList → Calls P f args' W fun e W' => ∃ v', e = .returned v' ∧ VR φ v v' ∧ Go.RowKit.Below W.heap.size W W') (H : Heap) :
    CallOk E P f args false H v H := by
  intro φ W args' cs hs hg ha _
  obtain ⟨e, W', fr, ⟨v', rfl, hv, hb⟩, hst, hfn, hmd, hdf, hkd, fn, hpf, hres⟩ := hc φ W args' ha cs
  exact ⟨φ, v', W', fr, To.below hs hb, hv, hst, hfn, hkd, hmd, hdf, fn, hpf, hres⟩
end
end
end Go.Proofs.YtcjidlgmbjebjaaDoor.Ev
