/- Part of the proof. -/
import Derived.Test.YtfnfmbikooeiaaaAa
import Derived.RangeFuncLeaves
import Derived.RangeFuncRecord
import Derived.RangeFuncIn
import Derived.RangeFuncSeq
set_option linter.unusedSimpArgs false
set_option linter.unusedVariables false
set_option maxHeartbeats 4000000
set_option maxRecDepth 100000
namespace Go.Ax

def wantB (ops : Array Oper) (e : Env) (o : Oper) : Option Bool :=
  match o.guard with
  | none => some true
  | some (j, want) =>
    match (ops[j]?).bind (·.dst) with
    | some t => match get e t with
      | .v (.bool b) => some (b == want)
      | .tup [] => some false
      | _ => none
    | none => some false

theorem wantA_iff (ops : Array Oper) (σ : St) (o : Oper) (yes no : Prop) : wantA ops σ o yes no ↔ (wantB ops σ.e o = some true ∧ yes) ∨ (wantB ops σ.e o = some false ∧ no) := by
  unfold wantA wantB
  cases o.guard with
  | none => simp
  | some p =>
    obtain ⟨j, want⟩ := p
    simp only
    cases (ops[j]?).bind (·.dst) with
    | none => simp
    | some t =>
      simp only
      cases get σ.e t with
      | v x =>
        cases x with
        | bool b => by_cases h : b = want <;> simp [h]
        | _ => simp
      | tup ps => cases ps <;> simp
      | _ => simp

def stepW (C : Cfg) (ops : Array Oper) (o : Oper) (σ : St) (κ : St → Prop) : Prop := wantA ops σ o (step1 C o σ κ) (κ ⟨put σ.e o.dst (.tup []), σ.h⟩)

theorem execOps_cons (C : Cfg) (ops : Array Oper) (o : Oper) (rest : List Oper) (σ : St) (κ : St → Prop) : execOps C ops (o :: rest) σ κ = stepW C ops o σ fun σ' => execOps C ops rest σ' κ := rfl

inductive DCls where
  | pure | read | alloc | other
  deriving DecidableEq

def heapFree : Op → Bool
  | .load .. | .convert .. | .slice .. => false
  | _ => true

def pureCall (C : Cfg) (c : Call) : Option (List AV → Option AV) :=
  match c.callee with
  | .value (.func g) => C.pure g
  | _ => none

def newsCall (C : Cfg) (c : Call) : Option (List Blk → List AV → Option Out) :=
  match c.callee with
  | .value (.func g) => match C.pure g with | some _ => none | none => C.news g
  | _ => none

def cvFree (P : Program) : Op → Bool
  | .convert a _ _ => match kindT P a with | .int _ => true | _ => false
  | _ => false
theorem cvFree_eq {P : Program} {ro : List Nat} {h h' : List Blk} {e : Env} {o : Op} (hf : cvFree P o = true) : stepH P ro h' e o = stepH P ro h e o := by
  unfold cvFree at hf
  split at hf
  · rename_i a b x
    show convA P h' a b (ev e x) = convA P h a b (ev e x)
    split at hf
    · rename_i i hk
      unfold convA
      cases ev e x with
      | v y => cases y <;> simp only [hk]
      | _ => simp only [hk]
    · cases hf
  · cases hf

def dcls (C : Cfg) (o : Op) : DCls :=
  match clsT C.P o with
  | .read => if (heapFree o || roOp C.ro o || cvFree C.P o) = true then .pure else .read
  | .eff => match o with
    | .alloc _ | .box .. | .makeSlice .. | .buildSlice .. | .convert .. => .alloc
    | _ => .other
  | .call => match o with
    | .call c => if (pureCall C c).isSome then .pure else if (newsCall C c).isSome then .alloc else .other
    | _ => .other
  | _ => .other

def valO (C : Cfg) (h : List Blk) (e : Env) (o : Op) : Option AV :=
  match clsT C.P o with
  | .read => stepH C.P C.ro h e o
  | _ => match o with
    | .call c => (pureCall C c).bind fun F => F (c.args.toList.map (ev e))
    | _ => none

def val (C : Cfg) (ops : Array Oper) (o : Oper) (σ : St) : Option AV :=
  match wantB ops σ.e o with
  | some true => valO C σ.h σ.e o.op
  | some false => some (.tup [])
  | none => none

section
variable {C : Cfg} {ops : Array Oper} {o : Oper} {σ : St} {κ κ' : St → Prop}

theorem stepW_val (hc : dcls C o.op = .pure ∨ dcls C o.op = .read) : stepW C ops o σ κ ↔ ∃ v, val C ops o σ = some v ∧ κ ⟨put σ.e o.dst v, σ.h⟩ := by
  unfold stepW
  rw [wantA_iff]
  have hs : step1 C o σ κ ↔ ∃ v, valO C σ.h σ.e o.op = some v ∧ κ ⟨put σ.e o.dst v, σ.h⟩ := by
    unfold dcls at hc
    unfold step1 valO
    split at hc
    · rename_i hcl
      rw [hcl]
      exact Iff.rfl
    · split at hc <;> simp at hc
    · rename_i hcl
      rw [hcl]
      split at hc
      · rename_i c hop
        split at hc
        · rename_i hp
          rw [hop]
          simp only
          obtain ⟨F, hF⟩ := Option.isSome_iff_exists.1 hp
          rw [hF]
          unfold pureCall at hF
          split at hF
          · rename_i g hcal
            have h1 : callArgs σ.e c = some (g, c.args.toList.map (ev σ.e)) := by
              unfold callArgs
              rw [hcal]
              simp [ev]
            rw [h1]
            unfold callStep
            simp only [holds, Option.some.injEq, Option.bind_some]
            constructor
            · rintro ⟨p, rfl, h⟩
              simp only [hF] at h
              exact h
            · intro h
              exact ⟨_, rfl, by simp only [hF]; exact h⟩
          · cases hF
        · split at hc <;> simp at hc
      · simp at hc
    · simp at hc
  unfold val
  cases hw : wantB ops σ.e o with
  | none => simp
  | some b => cases b <;> simp [hs]

theorem step1_mono (h : ∀ σ', κ σ' → κ' σ') (hs : step1 C o σ κ) : step1 C o σ κ' := by
  unfold step1 at *
  split at hs
  · obtain ⟨v, h1, h2⟩ := hs; exact ⟨v, h1, h _ h2⟩
  · obtain ⟨out, h1, h2⟩ := hs
    refine ⟨out, h1, ?_⟩
    cases out with
    | one v h' => exact h _ h2
    | cap m f => exact fun c hc => h _ (h2 c hc)
  · obtain ⟨⟨m, q⟩, h1, h2⟩ := hs; exact ⟨(m, q), h1, fun t ht => h _ (h2 t ht)⟩
  · split at hs
    · obtain ⟨⟨f, args⟩, h1, h2⟩ := hs
      refine ⟨(f, args), h1, ?_⟩
      simp only at h2 ⊢
      unfold callStep at *
      split
      · rename_i F hF
        rw [hF] at h2
        obtain ⟨v, h3, h4⟩ := h2
        exact ⟨v, h3, h _ h4⟩
      · rename_i hF
        rw [hF] at h2
        simp only at h2 ⊢
        split
        · rename_i N hN
          rw [hN] at h2
          obtain ⟨out, h3, h4⟩ := h2
          refine ⟨out, h3, ?_⟩
          cases out with
          | one v h' => exact h _ h4
          | cap m f => exact fun c hc => h _ (h4 c hc)
        · rename_i hN
          rw [hN] at h2
          exact ACall.mono h2 (fun v h' hk => h _ hk)
    · exact hs
  · exact hs

theorem stepW_mono (h : ∀ σ', κ σ' → κ' σ') (hs : stepW C ops o σ κ) : stepW C ops o σ κ' := by
  unfold stepW at *
  rw [wantA_iff] at *
  exact hs.imp (fun h1 => ⟨h1.1, step1_mono h h1.2⟩) (fun h1 => ⟨h1.1, h _ h1.2⟩)

theorem stepW_form (hs : stepW C ops o σ κ) : stepW C ops o σ fun σ' => κ σ' ∧ ∃ v h', σ' = ⟨put σ.e o.dst v, h'⟩ := by
  unfold stepW at *
  rw [wantA_iff] at *
  refine hs.imp (fun h1 => ⟨h1.1, ?_⟩) (fun h1 => ⟨h1.1, h1.2, _, _, rfl⟩)
  have hs := h1.2
  unfold step1 at *
  split at hs
  · obtain ⟨v, h1, h2⟩ := hs; exact ⟨v, h1, h2, _, _, rfl⟩
  · obtain ⟨out, h1, h2⟩ := hs
    refine ⟨out, h1, ?_⟩
    cases out with
    | one v h' => exact ⟨h2, _, _, rfl⟩
    | cap m f => exact fun c hc => ⟨h2 c hc, _, _, rfl⟩
  · obtain ⟨⟨m, q⟩, h1, h2⟩ := hs; exact ⟨(m, q), h1, fun t ht => ⟨h2 t ht, _, _, rfl⟩⟩
  · split at hs
    · obtain ⟨⟨f, args⟩, h1, h2⟩ := hs
      refine ⟨(f, args), h1, ?_⟩
      simp only at h2 ⊢
      unfold callStep at *
      split
      · rename_i F hF
        rw [hF] at h2
        obtain ⟨v, h3, h4⟩ := h2
        exact ⟨v, h3, h4, _, _, rfl⟩
      · rename_i hF
        rw [hF] at h2
        simp only at h2 ⊢
        split
        · rename_i N hN
          rw [hN] at h2
          obtain ⟨out, h3, h4⟩ := h2
          refine ⟨out, h3, ?_⟩
          cases out with
          | one v h' => exact ⟨h4, _, _, rfl⟩
          | cap m f => exact fun c hc => ⟨h4 c hc, _, _, rfl⟩
        · rename_i hN
          rw [hN] at h2
          exact ACall.mono h2 (fun v h' hk => ⟨hk, _, _, rfl⟩)
    · exact hs
  · exact hs

def looks (ops : Array Oper) (o : Oper) : List Tmp := o.looksAt ops

theorem ev_put {e : Env} {d : Option Nat} {v : AV} {x : Operand} (h : ∀ t, x = .tmp t → d ≠ some t) : ev (put e d v) x = ev e x := by
  cases x with
  | tmp t =>
    have := h t rfl
    simp only [ev, put]
    cases d with
    | none => rfl
    | some d => simp only [get]; rw [if_neg (fun he => this (by rw [he]))]
  | _ => rfl

theorem ev_list {e : Env} {d : Option Nat} {v : AV} {l : List Operand} (h : ∀ x ∈ l, ∀ t, x = .tmp t → d ≠ some t) : l.map (ev (put e d v)) = l.map (ev e) :=
  List.map_congr_left fun x hx => ev_put (h x hx)

theorem looks_op {x : Operand} {t : Tmp} (hx : x ∈ o.op.operands) (he : x = .tmp t) : t ∈ looks ops o := by
  subst he
  unfold looks Oper.looksAt
  refine List.mem_append_left _ (List.mem_filterMap.2 ⟨.tmp t, by simpa using hx, rfl⟩)

theorem wantB_put {e : Env} {d : Option Nat} {v : AV} (h : ∀ t, d = some t → t ∉ looks ops o) : wantB ops (put e d v) o = wantB ops e o := by
  unfold wantB
  cases hg : o.guard with
  | none => rfl
  | some p =>
    obtain ⟨j, want⟩ := p
    simp only
    cases hb : (ops[j]?).bind (·.dst) with
    | none => rfl
    | some t =>
      simp only
      have : get (put e d v) t = get e t := by
        cases d with
        | none => rfl
        | some d =>
          have hd := h d rfl
          rw [get_put, if_neg]
          rintro rfl
          exact hd (by unfold looks Oper.looksAt; rw [hg]; simp [hb])
      rw [this]

theorem stepR_put {P : Program} {h : List Blk} {e e' : Env} {op : Op} (hx : ∀ x ∈ op.operands, ev e' x = ev e x) : stepR P h e' op = stepR P h e op := by
  have ho : ∀ o : Option Operand, (∀ x, o = some x → ev e' x = ev e x) → optA e' o = optA e o := by
    intro o h; cases o with
    | none => rfl
    | some x => simp [optA, h x rfl]
  have hl : ∀ l : Array Operand, (∀ x ∈ l, ev e' x = ev e x) → l.toList.map (ev e') = l.toList.map (ev e) := fun l h => List.map_congr_left fun x hx => h x (by simpa using hx)
  cases op <;> simp only [Op.operands] at hx <;> simp only [stepR] <;> first
    | rfl
    | (simp at hx; simp only [hx]; done)
    | skip
  case slice t x lo hi mx =>
    rw [hx x (by simp), ho lo (fun x h => hx x (by simp [h])), ho hi (fun x h => hx x (by simp [h])), ho mx (fun x h => hx x (by simp [h]))]
  case makeFunc f a b =>
    rw [hl a (fun x h => hx x (by simp [h])), hl b (fun x h => hx x (by simp [h]))]
  case build t parts =>
    congr 1
    refine List.map_congr_left fun p hp => ?_
    rw [hx p.2 (by simp; exact ⟨p.1, by simpa using hp⟩)]
  case call c =>
    unfold callR
    split
    · rename_i hb
      rw [hl c.args (fun x h => hx x (by simp [Call.operands, hb, h]))]
    · rfl
end
end Go.Ax

namespace Go.Ax
section
variable {C : Cfg} {ops : Array Oper} {o : Oper} {κ κ' : St → Prop} {e : Env} {h : List Blk} {d : Option Nat} {v : AV}

theorem ev_looks (hd : ∀ t, d = some t → t ∉ looks ops o) : ∀ x ∈ o.op.operands, ev (put e d v) x = ev e x := fun _ hx => ev_put fun t ht hdt => hd t hdt (looks_op hx ht)

theorem effO_put {P : Program} {e' : Env} {op : Op} (hx : ∀ x ∈ op.operands, ev e' x = ev e x) : effO P h e' op = effO P h e op := by
  have hl : ∀ l : Array Operand, (∀ x ∈ l, ev e' x = ev e x) → l.toList.map (ev e') = l.toList.map (ev e) := fun l h => List.map_congr_left fun x hx => h x (by simpa using hx)
  cases op <;> simp only [Op.operands] at hx <;> simp only [effO] <;> first
    | rfl
    | (simp at hx; simp only [hx]; done)
    | skip
  case buildSlice t n parts =>
    have : (parts.toList.map fun (i, x) => (i, ev e' x)) = parts.toList.map fun (i, x) => (i, ev e x) := List.map_congr_left fun p hp => by
      obtain ⟨i, x⟩ := p
      simp only
      rw [hx x (by simp; exact ⟨i, by simpa using hp⟩)]
    rw [this]
  case call c =>
    split
    · rename_i h1 h2 h3
      have e1 := hx _ (show _ ∈ c.operands from by unfold Call.operands; rw [h1]; have := h2; simp [← Array.mem_toList_iff, this]; exact Or.inl rfl)
      have e2 := hx _ (show _ ∈ c.operands from by unfold Call.operands; rw [h1]; have := h2; simp [← Array.mem_toList_iff, this]; exact Or.inr rfl)
      rw [e1, e2]
    · rename_i h1 h2 h3
      have e1 := hx _ (show _ ∈ c.operands from by unfold Call.operands; rw [h1]; have := h2; simp [← Array.mem_toList_iff, this]; exact Or.inl rfl)
      have e2 := hx _ (show _ ∈ c.operands from by unfold Call.operands; rw [h1]; have := h2; simp [← Array.mem_toList_iff, this]; exact Or.inr rfl)
      rw [e1, e2]
    · rfl

theorem nilCmp_put {P : Program} {e' : Env} {op : Op} (hx : ∀ x ∈ op.operands, ev e' x = ev e x) : nilCmp P e' op = nilCmp P e op := by
  unfold nilCmp
  split
  · simp [Op.operands] at hx; simp only [hx]
  · simp [Op.operands] at hx; simp only [hx]
  · rfl

theorem callArgs_put {e' : Env} {c : Call} (hx : ∀ x ∈ c.operands, ev e' x = ev e x) : callArgs e' c = callArgs e c := by
  unfold callArgs
  split
  · rename_i f hc
    have hf := hx f (by unfold Call.operands; rw [hc]; simp)
    have hl : c.args.toList.map (ev e') = c.args.toList.map (ev e) := List.map_congr_left fun x h => hx x (by unfold Call.operands; simp [show x ∈ c.args from by simpa using h])
    rw [hf, hl]
  · rfl

theorem stepH_put {P : Program} {ro : List Nat} {h : List Blk} {e e' : Env} {op : Op} (hx : ∀ x ∈ op.operands, ev e' x = ev e x) : stepH P ro h e' op = stepH P ro h e op := stepR_put hx
theorem step1_put (hd : ∀ t, d = some t → t ∉ looks ops o) (hdd : ∀ t, d = some t → o.dst ≠ some t) :
    step1 C o ⟨put e d v, h⟩ κ ↔ step1 C o ⟨e, h⟩ fun σ' => κ ⟨put σ'.e d v, σ'.h⟩ := by
  have hx := ev_looks (e := e) (v := v) hd
  have hcomm : ∀ u, put (put e d v) o.dst u = put (put e o.dst u) d v := fun u => put_comm e v u hdd
  unfold step1
  split
  · rw [stepH_put hx]; simp only [hcomm]
  · rw [effO_put hx]; simp only [hcomm]
  · rw [nilCmp_put hx]; simp only [hcomm]
  · split
    · rename_i c hop
      rw [hop] at hx
      rw [callArgs_put hx]; simp only [hcomm]
    · rfl
  · rfl

theorem stepW_put (hd : ∀ t, d = some t → t ∉ looks ops o) (hdd : ∀ t, d = some t → o.dst ≠ some t) :
    stepW C ops o ⟨put e d v, h⟩ κ ↔ stepW C ops o ⟨e, h⟩ fun σ' => κ ⟨put σ'.e d v, σ'.h⟩ := by
  unfold stepW
  rw [wantA_iff, wantA_iff, step1_put hd hdd, wantB_put hd]
  have hcomm : put (put e d v) o.dst (.tup []) = put (put e o.dst (.tup [])) d v := put_comm e v _ hdd
  simp only [hcomm]

theorem valO_put (hx : ∀ x ∈ o.op.operands, ev (put e d v) x = ev e x) : valO C h (put e d v) o.op = valO C h e o.op := by
  unfold valO
  split
  · exact stepH_put hx
  · split
    · rename_i c hop
      rw [hop] at hx
      have hl : c.args.toList.map (ev (put e d v)) = c.args.toList.map (ev e) := List.map_congr_left fun x h => hx x (by simp only [Op.operands]; unfold Call.operands; simp [show x ∈ c.args from by simpa using h])
      rw [hl]
    · rfl

theorem val_put (hd : ∀ t, d = some t → t ∉ looks ops o) : val C ops o ⟨put e d v, h⟩ = val C ops o ⟨e, h⟩ := by
  unfold val
  simp only [wantB_put hd, valO_put (C := C) (h := h) (ev_looks (e := e) (v := v) hd)]

theorem val_heap {h' : List Blk} (hc : dcls C o.op = .pure) : val C ops o ⟨e, h'⟩ = val C ops o ⟨e, h⟩ := by
  unfold val
  have : valO C h' e o.op = valO C h e o.op := by
    unfold dcls at hc
    unfold valO
    split at hc
    · rename_i hcl
      rw [hcl]
      split at hc
      · rename_i hf
        simp only
        rw [Bool.or_eq_true, Bool.or_eq_true] at hf
        rcases hf with (hf | hf) | hf
        · cases hop : o.op <;> rw [hop] at hf <;> simp only [heapFree, Bool.false_eq_true] at hf <;> rfl
        · exact stepH_ro hf
        · exact cvFree_eq hf
      · cases hc
    · split at hc <;> cases hc
    · rename_i hcl
      rw [hcl]
    · cases hc
  simp only [this]

theorem val_ext {ext : List Blk} {x : AV} (h1 : val C ops o ⟨e, h⟩ = some x) : val C ops o ⟨e, h ++ ext⟩ = some x := by
  unfold val at *
  simp only at h1 ⊢
  cases hw : wantB ops e o with
  | none => rw [hw] at h1; cases h1
  | some b =>
    rw [hw] at h1
    cases b with
    | false => exact h1
    | true =>
      simp only at h1 ⊢
      unfold valO at *
      split at h1
      · exact stepH_ext h1
      · exact h1

theorem stepW_alloc (hC : C.Good) (hc : dcls C o.op = .alloc) (hs : stepW C ops o ⟨e, h⟩ κ) : stepW C ops o ⟨e, h⟩ fun σ' => κ σ' ∧ ∃ u ext, σ' = ⟨put e o.dst u, h ++ ext⟩ := by
  unfold stepW at *
  rw [wantA_iff] at *
  refine hs.imp (fun h1 => ⟨h1.1, ?_⟩) (fun h1 => ⟨h1.1, h1.2, .tup [], [], by simp⟩)
  have hs := h1.2
  unfold dcls at hc
  unfold step1 at *
  split at hc
  · split at hc <;> cases hc
  · rename_i hcl
    rw [hcl] at hs ⊢
    obtain ⟨out, h2, h3⟩ := hs
    refine ⟨out, h2, ?_⟩
    simp only at h2 h3 ⊢
    have key : out.all fun _ h' => ∃ ext, h' = h ++ ext := by
      cases hop : o.op <;> rw [hop] at hc h2 <;> simp only [reduceCtorEq] at hc <;> simp only [effO] at h2
      · obtain ⟨ps, _, rfl⟩ := Option.map_eq_some_iff.1 h2; exact ⟨_, rfl⟩
      · obtain ⟨ps, _, rfl⟩ := Option.map_eq_some_iff.1 h2; exact ⟨_, rfl⟩
      · unfold buildSliceA at h2
        split at h2
        · split at h2
          · obtain ⟨ps, _, rfl⟩ := Option.map_eq_some_iff.1 h2; exact ⟨_, rfl⟩
          · cases h2
        · split at h2
          · obtain ⟨ps, _, rfl⟩ := Option.map_eq_some_iff.1 h2; exact ⟨_, rfl⟩
          · cases h2
        · cases h2
      · rcases Option.or_eq_some_iff.1 h2 with h2 | ⟨_, h2⟩
        · unfold strBytesA at h2
          split at h2
          · cases h2; exact fun c _ => ⟨_, rfl⟩
          · cases h2
        · unfold markA at h2
          split at h2
          · split at h2
            · cases h2; exact ⟨[], by simp⟩
            · cases h2
          · cases h2
      · unfold makeSliceA at h2
        split at h2
        · obtain ⟨_, h2⟩ := oguard_some h2
          obtain ⟨ps, _, rfl⟩ := Option.map_eq_some_iff.1 h2; exact ⟨_, rfl⟩
        · cases h2
    cases out with
    | one u h' => obtain ⟨ext, rfl⟩ := key; exact ⟨h3, _, _, rfl⟩
    | cap m f => exact fun c hc => ⟨h3 c hc, by obtain ⟨ext, he⟩ := key c hc; exact ⟨_, ext, by rw [he]⟩⟩
  · rename_i hcl
    rw [hcl] at hs ⊢
    split at hc
    · rename_i c hop
      split at hc
      · cases hc
      · split at hc
        · rename_i hn
          obtain ⟨N, hN⟩ := Option.isSome_iff_exists.1 hn
          rw [hop] at hs ⊢
          simp only at hs ⊢
          unfold newsCall at hN
          split at hN
          · rename_i g hcal
            split at hN
            · cases hN
            · rename_i hp
              obtain ⟨⟨f, args⟩, h2, h3⟩ := hs
              refine ⟨(f, args), h2, ?_⟩
              have h1 : callArgs e c = some (g, c.args.toList.map (ev e)) := by
                unfold callArgs
                rw [hcal]
                simp [ev]
              rw [h1] at h2
              cases h2
              simp only at h3 ⊢
              unfold callStep at h3 ⊢
              rw [hp, hN] at h3
              rw [hp, hN]
              obtain ⟨out, h4, h5⟩ := h3
              refine ⟨out, h4, ?_⟩
              have key := (hC.2.2 g N _ _ out hN h4).1
              cases out with
              | one u h' => obtain ⟨ext, rfl⟩ := key; exact ⟨h5, _, _, rfl⟩
              | cap m f => exact fun c hc => ⟨h5 c hc, by obtain ⟨ext, he⟩ := key c hc; exact ⟨_, ext, by rw [he]⟩⟩
          · cases hN
        · cases hc
    · cases hc
  · cases hc
end
end Go.Ax

namespace Go.Ax

def apartB (ops : Array Oper) (x y : Oper) : Bool :=
  (match x.dst with | some d => !(looks ops y).contains d && y.dst != some d | none => true) &&
  (match y.dst with | some d => !(looks ops x).contains d | none => true)

theorem apartB_ok {ops : Array Oper} {x y : Oper} (h : apartB ops x y = true) :
    (∀ d, x.dst = some d → d ∉ looks ops y) ∧ (∀ d, x.dst = some d → y.dst ≠ some d) ∧ (∀ d, y.dst = some d → d ∉ looks ops x) := by
  unfold apartB at h
  rw [Bool.and_eq_true] at h
  obtain ⟨h1, h2⟩ := h
  refine ⟨fun d hd => ?_, fun d hd => ?_, fun d hd => ?_⟩
  · rw [hd] at h1; simp at h1; exact h1.1
  · rw [hd] at h1; simp at h1; exact h1.2
  · rw [hd] at h2; simp at h2; exact h2

def commB (C : Cfg) (ops : Array Oper) (x y : Oper) : Bool :=
  apartB ops x y &&
  (match dcls C x.op, dcls C y.op with
    | .pure, _ => true
    | _, .pure => true
    | .read, .read => true
    | .read, .alloc => true
    | _, _ => false)

def commD (C : Cfg) (ops : Array Oper) (x y : Oper) : Bool :=
  commB C ops x y || (apartB ops x y && (match dcls C x.op, dcls C y.op with | .alloc, .read => true | _, _ => false))

section
variable {C : Cfg} {ops : Array Oper} {κ : St → Prop} {E : Nat → Prop} {w0 : World} {F : Nat → Prop} {n : Nat} {r0 : List (Option Nat)}

theorem wp_exists {P : Program} {o : Oper} {a : Act} {w : World} {K : Act → World → Prop} (h : o.wp P a w K (fun _ _ _ => False)) : ∃ a' w', K a' w' := by
  unfold Oper.wp at h
  generalize (execOp a.eval o).run P w = r at h
  cases r with
  | ok x w' =>
    cases x <;> simp only [Oper.upon] at h <;> first
      | exact ⟨_, _, h⟩
      | exact h.elim
      | skip
    · obtain ⟨en, w2, fr, hR, _⟩ := h []
      cases en with
      | returned v => exact ⟨_, _, hR⟩
      | panicked c => exact hR.elim
      | outgrown => obtain ⟨_, _, h⟩ := hR; exact h.elim
    · obtain ⟨v, w2, hR, _⟩ := h default []
      exact ⟨_, _, hR⟩
  | halt x w' => cases x <;> simp only [Oper.upon] at h

theorem stepW_real (hC : C.Good) {o : Oper} {σ : St} {a : Act} {w : World} (hr : Ok E w0 F n r0 σ a w) (hd : ∀ t, o.dst = some t → t < n) (hs : stepW C ops o σ κ) : ∃ σ' a' w', κ σ' ∧ Ok E w0 F n r0 σ' a' w' := by
  unfold stepW at hs
  rw [wantA_iff] at hs
  rcases hs with ⟨_, hs⟩ | ⟨_, hs⟩
  · have := step1_ok (Q := fun _ _ _ => False) (K := fun a' w' => ∃ σ', κ σ' ∧ Ok E w0 F n r0 σ' a' w') hC hr hd hs (fun σ' a' w' h1 h2 => ⟨σ', h1, h2⟩)
    obtain ⟨a', w', σ', h1, h2⟩ := wp_exists this
    exact ⟨σ', a', w', h1, h2⟩
  · obtain ⟨ρ, hr⟩ := hr
    exact ⟨_, a.put o.dst undef, w, hs, put_cap hr hd (by simp only [AV.relV]; exact ⟨#[], rfl, by simp [relVs]⟩)⟩

theorem val_form {o i : Oper} {σ : St} {u : AV} {h' : List Blk} (hp : dcls C i.op = .pure) (hd : ∀ d, o.dst = some d → d ∉ looks ops i) : val C ops i ⟨put σ.e o.dst u, h'⟩ = val C ops i σ := by
  rw [val_put hd]
  exact val_heap hp

theorem pure_front1 (hC : C.Good) {i : Oper} (hp : dcls C i.op = .pure) {B : List Oper} : ∀ (A : List Oper) {σ : St} {a : Act} {w : World}, Ok E w0 F n r0 σ a w → (∀ j ∈ A, commB C ops j i = true ∧ ∀ t, j.dst = some t → t < n) →
    execOps C ops (A ++ i :: B) σ κ → ∃ v, val C ops i σ = some v
  | [], σ, a, w, _, _, hs => by
    rw [List.nil_append, execOps_cons, stepW_val (.inl hp)] at hs
    obtain ⟨v, hv, _⟩ := hs
    exact ⟨v, hv⟩
  | j :: A, σ, a, w, hr, hA, hs => by
    rw [List.cons_append, execOps_cons] at hs
    obtain ⟨hj, hjd⟩ := hA j (by simp)
    unfold commB at hj
    rw [Bool.and_eq_true] at hj
    obtain ⟨h1, h2, h3⟩ := apartB_ok hj.1
    obtain ⟨σ', a', w', ⟨hk, u, h', rfl⟩, hr'⟩ := stepW_real hC hr hjd (stepW_form hs)
    obtain ⟨v, hv⟩ := pure_front1 hC hp A hr' (fun x hx => hA x (by simp [hx])) hk
    rw [val_form hp h1] at hv
    exact ⟨v, hv⟩

theorem pure_front2 {i : Oper} (hp : dcls C i.op = .pure) {B : List Oper} {v : AV} : ∀ (A : List Oper) {σ : St}, (∀ j ∈ A, commB C ops j i = true) → val C ops i σ = some v →
    execOps C ops (A ++ i :: B) σ κ → execOps C ops (A ++ B) ⟨put σ.e i.dst v, σ.h⟩ κ
  | [], σ, _, hv, hs => by
    rw [List.nil_append, execOps_cons, stepW_val (.inl hp)] at hs
    obtain ⟨u, hu, hk⟩ := hs
    rw [hv] at hu
    cases hu
    exact hk
  | j :: A, σ, hA, hv, hs => by
    rw [List.cons_append, execOps_cons] at hs ⊢
    have hj := hA j (by simp)
    unfold commB at hj
    rw [Bool.and_eq_true] at hj
    obtain ⟨h1, h2, h3⟩ := apartB_ok hj.1
    have hs := stepW_form hs
    rw [stepW_put h3 (fun t ht hj => h2 t hj ht)]
    refine stepW_mono ?_ hs
    rintro σ' ⟨hk, u, h', rfl⟩
    refine pure_front2 hp A (fun x hx => hA x (by simp [hx])) ?_ hk
    rw [val_form hp h1]; exact hv

theorem other_front (hC : C.Good) {i : Oper} (hp : dcls C i.op ≠ .pure) {B : List Oper} : ∀ (A : List Oper) {σ : St}, (∀ j ∈ A, commB C ops j i = true) →
    execOps C ops (A ++ i :: B) σ κ → stepW C ops i σ fun σ' => execOps C ops (A ++ B) σ' κ
  | [], σ, _, hs => by rw [List.nil_append, execOps_cons] at hs; exact hs
  | j :: A, σ, hA, hs => by
    rw [List.cons_append, execOps_cons] at hs
    have hj := hA j (by simp)
    unfold commB at hj
    rw [Bool.and_eq_true] at hj
    obtain ⟨hj, hcl⟩ := hj
    obtain ⟨h1, h2, h3⟩ := apartB_ok hj
    have hjc : dcls C j.op = .pure ∨ (dcls C j.op = .read ∧ (dcls C i.op = .read ∨ dcls C i.op = .alloc)) := by
      cases hjo : dcls C j.op <;> cases hio : dcls C i.op <;> simp_all
    have hjr : dcls C j.op = .pure ∨ dcls C j.op = .read := hjc.imp id (fun h => h.1)
    rw [stepW_val hjr] at hs
    obtain ⟨v, hv, hk⟩ := hs
    have ih := other_front hC hp A (fun x hx => hA x (by simp [hx])) hk
    obtain ⟨e, h⟩ := σ
    rw [stepW_put h1 (fun t ht hi => h2 t ht hi)] at ih
    have fin : ∀ σ', execOps C ops (A ++ B) ⟨put σ'.e j.dst v, σ'.h⟩ κ → val C ops j σ' = some v → execOps C ops (j :: A ++ B) σ' κ := by
      intro σ' hk hv
      rw [List.cons_append, execOps_cons, stepW_val hjr]
      exact ⟨v, hv, hk⟩
    rcases hjc with hpj | ⟨hrj, hio⟩
    · refine stepW_mono ?_ (stepW_form ih)
      rintro σ' ⟨hk, u, h', rfl⟩
      refine fin _ hk ?_
      rw [val_put h3, val_heap (h := h) hpj]; exact hv
    · rcases hio with hri | hai
      · rw [stepW_val (.inr hri)] at ih ⊢
        obtain ⟨u, hu, hk⟩ := ih
        refine ⟨u, hu, fin _ hk ?_⟩
        rw [val_put h3]; exact hv
      · refine stepW_mono ?_ (stepW_alloc hC hai ih)
        rintro σ' ⟨hk, u, ext, rfl⟩
        refine fin _ hk ?_
        rw [val_put h3]; exact val_ext hv

theorem commD_pure {x y : Oper} (h : commD C ops x y = true) (hp : dcls C y.op = .pure) : commB C ops x y = true := by
  unfold commD at h
  rw [hp, Bool.or_eq_true] at h
  rcases h with h | h
  · exact h
  · rw [Bool.and_eq_true] at h
    have := h.2
    split at this <;> simp_all
theorem commD_other {x y : Oper} (h : commD C ops x y = true) (hp : dcls C y.op ≠ .read) : commB C ops x y = true := by
  unfold commD at h
  rw [Bool.or_eq_true] at h
  rcases h with h | h
  · exact h
  · rw [Bool.and_eq_true] at h
    have := h.2
    split at this <;> simp_all
theorem commD_read {x y : Oper} (h : commD C ops x y = true) (hp : dcls C y.op = .read) : apartB ops x y = true ∧ (dcls C x.op = .pure ∨ dcls C x.op = .read ∨ dcls C x.op = .alloc) := by
  unfold commD commB at h
  rw [hp, Bool.or_eq_true, Bool.and_eq_true, Bool.and_eq_true] at h
  rcases h with h | h
  · refine ⟨h.1, ?_⟩
    have := h.2
    cases hx : dcls C x.op <;> simp_all
  · refine ⟨h.1, ?_⟩
    have := h.2
    cases hx : dcls C x.op <;> simp_all

theorem row_unext {h ext : List Blk} {b : Nat} (hb : b < h.length) : row (h ++ ext) b = row h b := by
  unfold row; rw [List.getElem?_append_left hb]
theorem stepR_unext {ρ : List (Option Nat)} {e : Env} {h ext : List Blk} {a : Act} {w : World} (hr : Rep E w0 F n r0 ρ ⟨e, h⟩ a w) {op : Op} {x : AV} (h1 : stepR C.P (h ++ ext) e op = some x) : stepR C.P h e op = some x := by
  have hlen := hr.hp.len
  simp only at hlen
  have vp : ∀ o b base i, ev e o = .ptr b base i → b < h.length := by
    intro o b base i ho
    have h2 := hr.ev o
    simp only [ho, AV.relV, AV.rel] at h2
    obtain ⟨r, h2, _⟩ := h2
    rw [← hlen]; exact (List.getElem?_eq_some_iff.1 h2).1
  have vs : ∀ o b base sz off len cap, ev e o = .sl b base sz off len cap → b < h.length := by
    intro o b base sz off len cap ho
    have h2 := hr.ev o
    simp only [ho, AV.relV, AV.rel] at h2
    rw [← hlen]
    rcases h2 with ⟨r, o, h2, _⟩ | ⟨h2, _⟩ <;> exact (List.getElem?_eq_some_iff.1 h2).1
  have hint : ∀ o, intsOf (h ++ ext) (ev e o) = intsOf h (ev e o) := by
    intro o
    cases hx : ev e o with
    | sl b base sz off len cap =>
      unfold intsOf
      simp only [row_unext (ext := ext) (vs o _ _ _ _ _ _ hx)]
    | v y =>
      cases y with
      | slice a l c =>
        cases a with
        | none =>
          cases l with
          | zero => cases c <;> rfl
          | succ l => cases c <;> rfl
        | some a => rfl
      | _ => rfl
    | _ => rfl
  cases op with
  | load t o =>
    simp only [stepR] at h1 ⊢
    rw [← h1]
    cases hx : ev e o with
    | ptr b base i =>
      have := row_unext (ext := ext) (vp o _ _ _ hx)
      unfold loadA loadCell loadAgg
      simp only [this]
    | _ => rfl
  | convert s d o =>
    simp only [stepR] at h1 ⊢
    rw [← h1]
    have := hint o
    cases hx : ev e o with
    | sl b base sz off len cap =>
      rw [hx] at this
      simp only [convA, this]
    | v y =>
      cases y with
      | slice a l c => rw [hx] at this; simp only [convA, this]
      | _ => rfl
    | _ => first | rfl | (rw [hx] at this; simp only [convA, this])
  | slice t o lo hi mx =>
    simp only [stepR] at h1 ⊢
    rw [← h1]
    cases hx : ev e o with
    | ptr b base i =>
      have := row_unext (ext := ext) (vp o _ _ _ hx)
      unfold sliceA
      cases elemT C.P t <;> first | rfl | simp only [this]
    | v y => unfold sliceA; cases elemT C.P t <;> cases y <;> rfl
    | rop y => unfold sliceA; cases elemT C.P t <;> cases y <;> rfl
    | _ => unfold sliceA; cases elemT C.P t <;> rfl
  | _ => exact h1

theorem val_unext {e : Env} {h ext : List Blk} {a : Act} {w : World} {i : Oper} (hr : Ok E w0 F n r0 ⟨e, h⟩ a w) (hp : dcls C i.op = .read) {x : AV} (h1 : val C ops i ⟨e, h ++ ext⟩ = some x) : val C ops i ⟨e, h⟩ = some x := by
  obtain ⟨ρ, hr⟩ := hr
  unfold val at h1 ⊢
  simp only at h1 ⊢
  split at h1
  · rename_i hw
    unfold valO at h1 ⊢
    have hcl : clsT C.P i.op = .read := by
      unfold dcls at hp
      split at hp
      · rename_i h; exact h
      · split at hp <;> cases hp
      · split at hp
        · split at hp
          · cases hp
          · split at hp <;> cases hp
        · cases hp
      · cases hp
    rw [hcl] at h1 ⊢
    have hro : roOp C.ro i.op = false := by
      unfold dcls at hp
      rw [hcl] at hp
      simp only at hp
      split at hp
      · cases hp
      · rename_i hf; simp at hf; exact hf.1.2
    simp only [stepH_no hro] at h1 ⊢
    exact stepR_unext hr h1
  · exact h1
  · cases h1

theorem read_front1 (hC : C.Good) {i : Oper} (hp : dcls C i.op = .read) {B : List Oper} : ∀ (A : List Oper) {σ : St} {a : Act} {w : World}, Ok E w0 F n r0 σ a w → (∀ j ∈ A, commD C ops j i = true ∧ ∀ t, j.dst = some t → t < n) →
    execOps C ops (A ++ i :: B) σ κ → ∃ v, val C ops i σ = some v
  | [], σ, a, w, _, _, hs => by
    rw [List.nil_append, execOps_cons, stepW_val (.inr hp)] at hs
    obtain ⟨v, hv, _⟩ := hs
    exact ⟨v, hv⟩
  | j :: A, σ, a, w, hr, hA, hs => by
    rw [List.cons_append, execOps_cons] at hs
    obtain ⟨hj, hjd⟩ := hA j (by simp)
    obtain ⟨hap, hcl⟩ := commD_read hj hp
    obtain ⟨h1, h2, h3⟩ := apartB_ok hap
    have key : ∀ (u : AV) (ext : List Blk) (a' : Act) (w' : World), Ok E w0 F n r0 ⟨put σ.e j.dst u, σ.h ++ ext⟩ a' w' → execOps C ops (A ++ i :: B) ⟨put σ.e j.dst u, σ.h ++ ext⟩ κ → ∃ v, val C ops i σ = some v := by
      intro u ext a' w' hr' hk
      obtain ⟨v, hv⟩ := read_front1 hC hp A hr' (fun x hx => hA x (by simp [hx])) hk
      rw [val_put h1] at hv
      exact ⟨v, val_unext hr hp hv⟩
    rcases hcl with hcl | hcl | hcl
    · rw [stepW_val (.inl hcl)] at hs
      obtain ⟨u, hu, hk⟩ := hs
      obtain ⟨σ', a', w', rfl, hr'⟩ := stepW_real (κ := fun σ' => σ' = ⟨put σ.e j.dst u, σ.h⟩) hC hr hjd (by rw [stepW_val (.inl hcl)]; exact ⟨u, hu, rfl⟩)
      exact key u [] a' w' (by simpa using hr') (by simpa using hk)
    · rw [stepW_val (.inr hcl)] at hs
      obtain ⟨u, hu, hk⟩ := hs
      obtain ⟨σ', a', w', rfl, hr'⟩ := stepW_real (κ := fun σ' => σ' = ⟨put σ.e j.dst u, σ.h⟩) hC hr hjd (by rw [stepW_val (.inr hcl)]; exact ⟨u, hu, rfl⟩)
      exact key u [] a' w' (by simpa using hr') (by simpa using hk)
    · obtain ⟨σ', a', w', ⟨hk, u, ext, rfl⟩, hr'⟩ := stepW_real hC hr hjd (stepW_alloc hC hcl hs)
      exact key u ext a' w' hr' hk

theorem read_front2 (hC : C.Good) {i : Oper} (hp : dcls C i.op = .read) {B : List Oper} {v : AV} : ∀ (A : List Oper) {σ : St}, (∀ j ∈ A, commD C ops j i = true) → val C ops i σ = some v →
    execOps C ops (A ++ i :: B) σ κ → execOps C ops (A ++ B) ⟨put σ.e i.dst v, σ.h⟩ κ
  | [], σ, _, hv, hs => by
    rw [List.nil_append, execOps_cons, stepW_val (.inr hp)] at hs
    obtain ⟨u, hu, hk⟩ := hs
    rw [hv] at hu
    cases hu
    exact hk
  | j :: A, σ, hA, hv, hs => by
    rw [List.cons_append, execOps_cons] at hs ⊢
    obtain ⟨hap, hcl⟩ := commD_read (hA j (by simp)) hp
    obtain ⟨h1, h2, h3⟩ := apartB_ok hap
    have key : ∀ (u : AV) (ext : List Blk), execOps C ops (A ++ i :: B) ⟨put σ.e j.dst u, σ.h ++ ext⟩ κ → execOps C ops (A ++ B) ⟨put (put σ.e j.dst u) i.dst v, σ.h ++ ext⟩ κ := by
      intro u ext hk
      refine read_front2 hC hp A (fun x hx => hA x (by simp [hx])) ?_ hk
      rw [val_put h1]; exact val_ext hv
    rw [stepW_put h3 (fun t ht hj => h2 t hj ht)]
    rcases hcl with hcl | hcl | hcl
    · rw [stepW_val (.inl hcl)] at hs ⊢
      obtain ⟨u, hu, hk⟩ := hs
      have := key u [] (by simpa using hk)
      exact ⟨u, hu, by simpa using this⟩
    · rw [stepW_val (.inr hcl)] at hs ⊢
      obtain ⟨u, hu, hk⟩ := hs
      have := key u [] (by simpa using hk)
      exact ⟨u, hu, by simpa using this⟩
    · refine stepW_mono ?_ (stepW_alloc hC hcl hs)
      rintro σ' ⟨hk, u, ext, rfl⟩
      exact key u ext hk

theorem wantB_real {o : Oper} {σ : St} {a : Act} {w : World} {b : Bool} (hr : Ok E w0 F n r0 σ a w) (h : wantB ops σ.e o = some b) : Region.wanted o (yielded ops a.tmps) = b := by
  obtain ⟨ρ, hr⟩ := hr
  unfold wantB at h
  unfold Region.wanted
  cases hg : o.guard with
  | none => rw [hg] at h; cases h; rfl
  | some p =>
    obtain ⟨j, want⟩ := p
    rw [hg] at h
    simp only at h ⊢
    unfold yielded
    cases hb : (ops[j]?).bind (·.dst) with
    | none => rw [hb] at h; simp only [Option.some.injEq] at h; subst h; simp
    | some t =>
      rw [hb] at h
      simp only at h
      have ht := hr.tm t
      rw [Array.getD_eq_getD_getElem?] at ht
      split at h
      · rename_i c heq
        rw [heq] at ht
        simp only [AV.relV, AV.rel] at ht
        have ht := ht.1
        injection ht with ht _
        have h1 : a.tmps[t]? = some (.bool c) := by
          cases h2 : a.tmps[t]? with
          | none => rw [h2] at ht; simp [undef] at ht
          | some x => rw [h2] at ht; simp at ht; rw [ht]
        simp only [Option.some.injEq] at h
        simp [h1, ← h]
      · rename_i heq
        rw [heq] at ht
        simp only [AV.relV, relVs] at ht
        obtain ⟨vs, ht, hvs⟩ := ht
        simp only [Option.some.injEq] at h
        subst h
        cases h2 : a.tmps[t]? with
        | none => simp [h2]
        | some x => rw [h2] at ht; simp at ht; simp [h2, ht]
      · cases h

theorem stepW_ok (hC : C.Good) {i : Nat} {o : Oper} {σ : St} {a : Act} {w : World} {K : Act → World → Prop} {Q : Exit → Act → World → Prop} (hi : ops[i]? = some o) (hr : Ok E w0 F n r0 σ a w) (hd : ∀ t, o.dst = some t → t < n)
    (hs : stepW C ops o σ κ) (hK : ∀ σ' a' w', κ σ' → Ok E w0 F n r0 σ' a' w' → K a' w') : wpOp C.P ops Q i K a w := by
  unfold wpOp
  rw [hi]
  simp only
  unfold stepW at hs
  rw [wantA_iff] at hs
  rcases hs with ⟨hw, hs⟩ | ⟨hw, hs⟩
  · rw [if_pos (wantB_real hr hw)]
    exact .inl (step1_ok hC hr hd hs hK)
  · rw [if_neg (by rw [wantB_real hr hw]; simp)]
    obtain ⟨ρ, hr⟩ := hr
    exact hK _ _ _ hs (put_cap hr hd (by simp only [AV.relV]; exact ⟨#[], rfl, by simp [relVs]⟩))
end
end Go.Ax

namespace Go.Ax

def edges (o : Oper) : List Nat := (o.after.toList.filter (Region.binds .any)).map (·.on)

def dd : List Nat → List Nat
  | [] => []
  | x :: xs => if (dd xs).contains x then dd xs else x :: dd xs
theorem mem_dd {j : Nat} : ∀ {l : List Nat}, j ∈ dd l → j ∈ l
  | [], h => h
  | x :: xs, h => by
    unfold dd at h
    split at h
    · exact List.mem_cons_of_mem _ (mem_dd h)
    · rcases List.mem_cons.1 h with h | h
      · subst h; simp
      · exact List.mem_cons_of_mem _ (mem_dd h)
def ancs : List Oper → List (List Nat) → List (List Nat)
  | [], acc => acc
  | o :: r, acc => ancs r (acc ++ [dd (edges o ++ (edges o).flatMap fun j => acc.getD j [])])

def orderOk (C : Cfg) (ops : Array Oper) : Bool :=
  let an := ancs ops.toList []
  (List.range ops.size).all fun i => (match ops[i]? with | some o => (edges o).all (· < i) | none => true) && (List.range i).all fun j =>
    (an.getD i []).contains j || (match ops[j]?, ops[i]? with | some x, some y => commD C ops x y | _, _ => false)

def notDefer : Op → Bool
  | .defer _ => false
  | _ => true
def drawOk (C : Cfg) : Code → Bool
  | .region id ops d => (C.odd.contains id && C.rd.isNone) || ((!d || orderOk C ops) && (C.rd.isNone || ops.toList.all fun o => notDefer o.op))
  | .seq a b => drawOk C a && drawOk C b
  | .cond _ a b => drawOk C a && drawOk C b
  | .block _ a => drawOk C a
  | .loop a => drawOk C a
  | .scope a => drawOk C a
  | _ => true

theorem ancs_len : ∀ (l : List Oper) (acc : List (List Nat)), (ancs l acc).length = acc.length + l.length
  | [], acc => by simp [ancs]
  | o :: r, acc => by simp [ancs, ancs_len r]; omega

theorem ancs_old : ∀ (l : List Oper) (acc : List (List Nat)) (i : Nat), i < acc.length → (ancs l acc).getD i [] = acc.getD i []
  | [], acc, i, _ => rfl
  | o :: r, acc, i, h => by
    simp only [ancs]
    rw [ancs_old r _ i (by simp; omega)]
    simp [List.getD, List.getElem?_append_left h]

theorem ancs_in {S : Nat → Prop} (hcl : ∀ (all : List Oper) (k : Nat) o, all[k]? = some o → True) : ∀ (l : List Oper) (acc : List (List Nat)) (all : List Oper), all.length = acc.length + l.length →
    (∀ k o, l[k]? = some o → all[acc.length + k]? = some o) →
    (∀ (k : Nat) o, all[k]? = some o → S k → ∀ j ∈ edges o, S j) →
    (∀ i, i < acc.length → (∀ o, all[i]? = some o → ∀ j ∈ edges o, S j) → ∀ j ∈ acc.getD i [], S j) →
    ∀ i, i < all.length → (∀ o, all[i]? = some o → ∀ j ∈ edges o, S j) → ∀ j ∈ (ancs l acc).getD i [], S j
  | [], acc, all, hl, _, _, hacc, i, hi, he => hacc i (by simp at hl; omega) he
  | o :: r, acc, all, hl, hall, hS, hacc, i, hi, he => by
    simp only [ancs]
    refine ancs_in hcl r _ all (by simp at hl ⊢; omega) ?_ hS ?_ i hi he
    · intro k o' hk
      have := hall (k + 1) o' (by simpa using hk)
      simpa [Nat.add_assoc, Nat.add_comm 1] using this
    · intro i' hi' he' j hj
      simp at hi'
      rcases Nat.lt_or_ge i' acc.length with h | h
      · simp [List.getD, List.getElem?_append_left h] at hj
        exact hacc i' h he' j (by simpa [List.getD] using hj)
      · have : i' = acc.length := by omega
        subst this
        simp [List.getD] at hj
        have hj := mem_dd hj
        simp at hj
        have ho : all[acc.length]? = some o := by have := hall 0 o (by simp); simpa using this
        rcases hj with hj | ⟨k, hk, hj⟩
        · exact he' o ho j hj
        · have hSk := he' o ho k hk
          rcases Nat.lt_or_ge k acc.length with hk2 | hk2
          · refine hacc k hk2 ?_ j (by simpa [List.getD] using hj)
            intro o' ho'
            exact hS k o' ho' hSk
          · simp [List.getElem?_eq_none hk2] at hj

def left (ops : Array Oper) (listed : Array Bool) : List Nat := (List.range ops.size).filter fun i => !listed.getD i true

section
variable {C : Cfg} {ops : Array Oper} {κ : St → Prop} {E : Nat → Prop} {w0 : World} {F : Nat → Prop} {n : Nat} {r0 : List (Option Nat)} {Q : Exit → Act → World → Prop}

theorem left_split {listed : Array Bool} {i : Nat} (hi : i ∈ left ops listed) : ∃ A B, left ops listed = A ++ i :: B ∧ left ops (listed.setIfInBounds i true) = A ++ B ∧ (∀ j ∈ A, j < i) := by
  have hn : (left ops listed).Nodup := List.Pairwise.filter _ List.nodup_range
  have hsort : (left ops listed).Pairwise (· < ·) := List.Pairwise.filter _ List.pairwise_lt_range
  obtain ⟨A, B, hAB⟩ := List.append_of_mem hi
  refine ⟨A, B, hAB, ?_, ?_⟩
  · have h1 : left ops (listed.setIfInBounds i true) = (left ops listed).filter (· != i) := by
      unfold left
      rw [List.filter_filter]
      apply List.filter_congr
      intro x hx
      rw [Array.getD_eq_getD_getElem?, Array.getD_eq_getD_getElem?, Array.getElem?_setIfInBounds]
      by_cases h : i = x
      · subst h
        simp only [if_true]
        split <;> simp
      · simp [h, Ne.symm h]
    rw [h1, hAB]
    rw [hAB] at hn
    have hn' := List.nodup_append.1 hn
    have hA : i ∉ A := fun h => (hn'.2.2 i h i (by simp)) rfl
    have hB : i ∉ B := (List.nodup_cons.1 hn'.2.1).1
    rw [List.filter_append, List.filter_cons]
    simp only [bne_self_eq_false, Bool.false_eq_true, if_false]
    have e1 : A.filter (· != i) = A := List.filter_eq_self.2 fun x hx => by simp; rintro rfl; exact hA hx
    have e2 : B.filter (· != i) = B := List.filter_eq_self.2 fun x hx => by simp; rintro rfl; exact hB hx
    rw [e1, e2]
  · intro j hj
    rw [hAB] at hsort
    exact (List.pairwise_append.1 hsort).2.2 j hj i (by simp)

theorem draw_any (hC : C.Good) (hok : orderOk C ops = true) (hdst : ∀ o ∈ ops.toList, ∀ t, o.dst = some t → t < n) (hQ : ∀ σ a w, κ σ → Ok E w0 F n r0 σ a w → Q .normal a w) :
    ∀ (fuel : Nat) (listed : Array Bool) (σ : St) (a : Act) (w : World), listed.size = ops.size → Ok E w0 F n r0 σ a w →
      (∀ (k : Nat) o, ops[k]? = some o → listed.getD k false = true → ∀ j ∈ edges o, listed.getD j false = true) →
      (left ops listed).length = fuel →
      execOps C ops ((left ops listed).filterMap (ops[·]?)) σ κ → wpAny C.P .any ops Q fuel listed a w := by
  have hready : ∀ listed i, i ∈ Region.ready .any ops listed ↔ (i ∈ left ops listed ∧ ∃ o, ops[i]? = some o ∧ ∀ j ∈ edges o, listed.getD j false = true) := by
    intro listed i
    unfold Region.ready left edges
    rw [List.mem_filter, List.mem_filter]
    constructor
    · rintro ⟨h1, h2⟩
      simp only [Bool.and_eq_true] at h2
      refine ⟨⟨h1, h2.1⟩, ?_⟩
      cases ho : ops[i]? with
      | none => rw [ho] at h2; simp at h2
      | some o =>
        rw [ho] at h2
        simp only [Option.map_some, Option.getD_some] at h2
        refine ⟨o, rfl, ?_⟩
        intro j hj
        simp only [List.mem_map, List.mem_filter] at hj
        obtain ⟨e, ⟨he1, he2⟩, rfl⟩ := hj
        have := (Array.all_eq_true_iff_forall_mem.1 h2.2) e (by simpa using he1)
        simpa [he2] using this
    · rintro ⟨⟨h1, h2⟩, o, ho, h3⟩
      refine ⟨h1, ?_⟩
      simp only [Bool.and_eq_true]
      refine ⟨h2, ?_⟩
      rw [ho]
      simp only [Option.map_some, Option.getD_some]
      rw [Array.all_eq_true_iff_forall_mem]
      intro e he
      by_cases hb : Region.binds .any e = true
      · have := h3 e.on (List.mem_map.2 ⟨e, List.mem_filter.2 ⟨by simpa using he, hb⟩, rfl⟩)
        simp [this]
      · simp [hb]
  unfold orderOk at hok
  simp only [List.all_eq_true, List.mem_range, Bool.and_eq_true, Bool.or_eq_true] at hok
  have hearly : ∀ (i : Nat) o, ops[i]? = some o → ∀ j ∈ edges o, j < i := by
    intro i o ho j hj
    have hi : i < ops.size := (Array.getElem?_eq_some_iff.1 ho).1
    have := (hok i hi).1
    rw [ho] at this
    simpa using (List.all_eq_true.1 this) j hj
  intro fuel
  induction fuel with
  | zero =>
    intro listed σ a w hsz hr hcl hlen hs
    have hnil : left ops listed = [] := List.eq_nil_of_length_eq_zero hlen
    rw [hnil] at hs
    refine ⟨?_, hQ _ _ _ hs hr⟩
    cases hrd : Region.ready .any ops listed with
    | nil => rfl
    | cons i r =>
      have := ((hready listed i).1 (by rw [hrd]; simp)).1
      rw [hnil] at this
      cases this
  | succ fuel ih =>
    intro listed σ a w hsz hr hcl hlen hs
    refine ⟨?_, ?_⟩
    · intro hrd
      exfalso
      cases hl : left ops listed with
      | nil => rw [hl] at hlen; simp at hlen
      | cons i r =>
        have hi : i ∈ left ops listed := by rw [hl]; simp
        have hi2 := hi
        unfold left at hi2
        rw [List.mem_filter, List.mem_range] at hi2
        have hmem : i ∈ Region.ready .any ops listed := by
          refine (hready listed i).2 ⟨hi, ops[i]'hi2.1, by simp [hi2.1], ?_⟩
          intro j hj
          have hji := hearly i _ (by simp [hi2.1]) j hj
          cases hb : listed.getD j false with
          | true => rfl
          | false =>
            exfalso
            have hjl : j ∈ left ops listed := by
              unfold left
              rw [List.mem_filter, List.mem_range]
              refine ⟨by omega, ?_⟩
              rw [Array.getD_eq_getD_getElem?] at hb ⊢
              have : j < listed.size := by omega
              simp [this] at hb ⊢
              exact hb
            have hsort : (left ops listed).Pairwise (· < ·) := List.Pairwise.filter _ List.pairwise_lt_range
            rw [hl] at hsort hjl
            rcases List.mem_cons.1 hjl with rfl | hjr
            · omega
            · have := (List.pairwise_cons.1 hsort).1 j hjr; omega
        rw [hrd] at hmem
        cases hmem
    · intro i hi
      obtain ⟨hil, o, ho, hed⟩ := (hready listed i).1 hi
      obtain ⟨A, B, h1, h2, h3⟩ := left_split hil
      have hod : ∀ t, o.dst = some t → t < n := hdst o (by
        have := Array.mem_of_getElem? ho
        simpa using this)
      have hisz : i < ops.size := (Array.getElem?_eq_some_iff.1 ho).1
      have hcomm : ∀ x ∈ A.filterMap (ops[·]?), commD C ops x o = true ∧ ∀ t, x.dst = some t → t < n := by
        intro x hx
        obtain ⟨j, hj, hjx⟩ := List.mem_filterMap.1 hx
        refine ⟨?_, hdst x (by have := Array.mem_of_getElem? hjx; simpa using this)⟩
        have hji := h3 j hj
        have hjl : j ∈ left ops listed := by rw [h1]; simp [hj]
        have hjn : listed.getD j false = false := by
          unfold left at hjl
          rw [List.mem_filter, List.mem_range] at hjl
          rw [Array.getD_eq_getD_getElem?] at hjl ⊢
          have : j < listed.size := by omega
          simp [this] at hjl ⊢
          exact hjl.2
        rcases (hok i hisz).2 j hji with h | h
        · exfalso
          have := ancs_in (S := fun k => listed.getD k false = true) (fun _ _ _ _ => trivial) ops.toList [] ops.toList (by simp) (by simp) (by
            intro k o' ho' hS j hj
            exact hcl k o' (by simpa using ho') hS j hj) (by simp) i (by simpa using hisz) (by
            intro o' ho' j hj
            have : o' = o := by
              have h4 : ops[i]? = some o' := by simpa using ho'
              rw [ho] at h4; cases h4; rfl
            subst this
            exact hed j hj) j (by simpa using h)
          rw [hjn] at this
          cases this
        · rw [hjx, ho] at h
          exact h
      rw [h1, List.filterMap_append, List.filterMap_cons, ho] at hs
      simp only at hs
      have hlen2 : (left ops (listed.setIfInBounds i true)).length = fuel := by
        rw [h2]; rw [h1] at hlen; simp at hlen ⊢; omega
      have hcl2 : ∀ (k : Nat) o', ops[k]? = some o' → (listed.setIfInBounds i true).getD k false = true → ∀ j ∈ edges o', (listed.setIfInBounds i true).getD j false = true := by
        have hset : ∀ j, listed.getD j false = true → (listed.setIfInBounds i true).getD j false = true := by
          intro j hj
          rw [Array.getD_eq_getD_getElem?] at hj ⊢
          rw [Array.getElem?_setIfInBounds]
          split
          · split
            · rfl
            · rename_i h5 h6; subst h5; simp [show listed[i]? = none from by simp; omega] at hj
          · exact hj
        intro k o' ho' hk j hj
        by_cases hki : k = i
        · subst hki
          rw [ho] at ho'
          cases ho'
          exact hset j (hed j hj)
        · refine hset j (hcl k o' ho' ?_ j hj)
          rw [Array.getD_eq_getD_getElem?] at hk ⊢
          rw [Array.getElem?_setIfInBounds, if_neg (fun h => hki h.symm)] at hk
          exact hk
      have go : ∀ σ' a' w', execOps C ops ((left ops (listed.setIfInBounds i true)).filterMap (ops[·]?)) σ' κ → Ok E w0 F n r0 σ' a' w' →
          wpAny C.P .any ops Q fuel (listed.setIfInBounds i true) a' w' := fun σ' a' w' hs' hr' => ih _ _ _ _ (by simpa using hsz) hr' hcl2 hlen2 hs'
      rw [h2, List.filterMap_append] at go
      by_cases hp : dcls C o.op = .pure
      · have hcomm' := fun x hx => And.intro (commD_pure (hcomm x hx).1 hp) (hcomm x hx).2
        obtain ⟨v, hv⟩ := pure_front1 hC hp _ hr hcomm' hs
        have h5 := pure_front2 hp _ (fun x hx => (hcomm' x hx).1) hv hs
        have h6 : stepW C ops o σ fun σ' => execOps C ops (A.filterMap (ops[·]?) ++ B.filterMap (ops[·]?)) σ' κ := by
          rw [stepW_val (.inl hp)]
          exact ⟨v, hv, h5⟩
        exact stepW_ok hC ho hr hod h6 go
      · by_cases hrd : dcls C o.op = .read
        · obtain ⟨v, hv⟩ := read_front1 hC hrd _ hr hcomm hs
          have h5 := read_front2 hC hrd _ (fun x hx => (hcomm x hx).1) hv hs
          have h6 : stepW C ops o σ fun σ' => execOps C ops (A.filterMap (ops[·]?) ++ B.filterMap (ops[·]?)) σ' κ := by
            rw [stepW_val (.inr hrd)]
            exact ⟨v, hv, h5⟩
          exact stepW_ok hC ho hr hod h6 go
        · exact stepW_ok hC ho hr hod (other_front hC hp _ (fun x hx => commD_other (hcomm x hx).1 hrd) hs) go
end
end Go.Ax

namespace Go.Ax

inductive Plan where
  | done
  | first (i : Nat) (p : Plan)
  | fork (i : Nat) (p q : Plan)
  | stop

def Plan.heads : Plan → List Nat
  | .fork i _ q => i :: q.heads
  | _ => []

def opR (C : Cfg) (ops : Array Oper) (i : Nat) (σ : St) (κ : St → Prop) : Prop :=
  match ops[i]? with
  | some o => stepW C ops o σ κ
  | none => False

def goPlan (C : Cfg) (ops : Array Oper) (κ : St → Prop) : Plan → St → Prop
  | .done, σ => κ σ
  | .first i p, σ => opR C ops i σ (goPlan C ops κ p)
  | .fork i p q, σ => opR C ops i σ (goPlan C ops κ p) ∧ goPlan C ops κ q σ
  | .stop, _ => True

def readyL (ops : Array Oper) (listed : Array Bool) : List Nat := Region.ready .any ops listed

def depsL (ops : Array Oper) (i : Nat) : List Nat → List Nat → List Nat
  | [], acc => acc
  | j :: r, acc => depsL ops i r (if j != i && (match ops[j]? with | some o => (edges o).any fun k => k == i || acc.contains k | none => false) then acc ++ [j] else acc)

def frontB (C : Cfg) (ops : Array Oper) (listed : Array Bool) (i : Nat) : Bool :=
  let l := left ops listed
  let d := depsL ops i l []
  match ops[i]? with
  | some o => (match dcls C o.op with | .pure => true | .read => true | _ => false) &&
    (d.all fun j => l.contains j && j != i && (match ops[j]? with | some x => (edges x).any fun k => k == i || d.contains k | none => false)) &&
    l.all fun j => j == i || (d.contains j || (match ops[j]? with | some x => commB C ops o x | none => false))
  | none => false

def planOk (C : Cfg) (ops : Array Oper) : Bool → Plan → Array Bool → Bool
  | false, .done, listed => (left ops listed).isEmpty
  | false, .first i p, listed => (readyL ops listed).contains i && frontB C ops listed i && planOk C ops false p (listed.setIfInBounds i true)
  | b, .fork i p q, listed => (b || (!(readyL ops listed).isEmpty && (readyL ops listed).all fun j => (Plan.fork i p q).heads.contains j)) && planOk C ops false p (listed.setIfInBounds i true) && planOk C ops true q listed
  | true, .stop, _ => true
  | _, _, _ => false

section
variable {C : Cfg} {ops : Array Oper} {κ : St → Prop} {E : Nat → Prop} {w0 : World} {F : Nat → Prop} {n : Nat} {r0 : List (Option Nat)} {Q : Exit → Act → World → Prop}

theorem ready_iff (listed : Array Bool) (i : Nat) : i ∈ readyL ops listed ↔ (i ∈ left ops listed ∧ ∃ o, ops[i]? = some o ∧ ∀ j ∈ edges o, listed.getD j false = true) := by
  unfold readyL Region.ready left edges
  rw [List.mem_filter, List.mem_filter]
  constructor
  · rintro ⟨h1, h2⟩
    simp only [Bool.and_eq_true] at h2
    refine ⟨⟨h1, h2.1⟩, ?_⟩
    cases ho : ops[i]? with
    | none => rw [ho] at h2; simp at h2
    | some o =>
      rw [ho] at h2
      simp only [Option.map_some, Option.getD_some] at h2
      refine ⟨o, rfl, ?_⟩
      intro j hj
      simp only [List.mem_map, List.mem_filter] at hj
      obtain ⟨e, ⟨he1, he2⟩, rfl⟩ := hj
      have := (Array.all_eq_true_iff_forall_mem.1 h2.2) e (by simpa using he1)
      simpa [he2] using this
  · rintro ⟨⟨h1, h2⟩, o, ho, h3⟩
    refine ⟨h1, ?_⟩
    simp only [Bool.and_eq_true]
    refine ⟨h2, ?_⟩
    rw [ho]
    simp only [Option.map_some, Option.getD_some]
    rw [Array.all_eq_true_iff_forall_mem]
    intro e he
    by_cases hb : Region.binds .any e = true
    · have := h3 e.on (List.mem_map.2 ⟨e, List.mem_filter.2 ⟨by simpa using he, hb⟩, rfl⟩)
      simp [this]
    · simp [hb]

theorem getD_set {listed : Array Bool} {i j : Nat} (h : listed.getD j false = true) : (listed.setIfInBounds i true).getD j false = true := by
  rw [Array.getD_eq_getD_getElem?] at h ⊢
  rw [Array.getElem?_setIfInBounds]
  split
  · split
    · rfl
    · rename_i h5 h6; subst h5; simp [show listed[i]? = none from by simp; omega] at h
  · exact h

theorem left_set {listed : Array Bool} {i j : Nat} (h : i ∈ left ops listed) : j ∈ left ops (listed.setIfInBounds i true) ↔ (j ∈ left ops listed ∧ j ≠ i) := by
  obtain ⟨A, B, h1, h2, _⟩ := left_split h
  have hn : (left ops listed).Nodup := List.Pairwise.filter _ List.nodup_range
  rw [h2, h1]
  rw [h1] at hn
  have hn' := List.nodup_append.1 hn
  have hA : i ∉ A := fun h => (hn'.2.2 i h i (by simp)) rfl
  have hB : i ∉ B := (List.nodup_cons.1 hn'.2.1).1
  simp only [List.mem_append, List.mem_cons]
  constructor
  · rintro (h | h)
    · exact ⟨.inl h, fun e => hA (e ▸ h)⟩
    · exact ⟨.inr (.inr h), fun e => hB (e ▸ h)⟩
  · rintro ⟨h | h | h, hne⟩
    · exact .inl h
    · exact absurd h hne
    · exact .inr h

theorem ready_set {listed : Array Bool} {i j : Nat} (hi : i ∈ left ops listed) (hj : j ∈ readyL ops listed) (hne : j ≠ i) : j ∈ readyL ops (listed.setIfInBounds i true) := by
  obtain ⟨h1, o, ho, h2⟩ := (ready_iff listed j).1 hj
  exact (ready_iff _ j).2 ⟨(left_set hi).2 ⟨h1, hne⟩, o, ho, fun k hk => getD_set (h2 k hk)⟩

theorem left_len {listed : Array Bool} {i f : Nat} (hi : i ∈ left ops listed) (hl : (left ops listed).length = f + 1) : (left ops (listed.setIfInBounds i true)).length = f := by
  obtain ⟨A, B, h1, h2, _⟩ := left_split hi
  rw [h2]; rw [h1] at hl; simp at hl ⊢; omega

theorem set_comm2 (listed : Array Bool) (i j : Nat) : (listed.setIfInBounds i true).setIfInBounds j true = (listed.setIfInBounds j true).setIfInBounds i true := by
  apply Array.ext_getElem?
  intro k
  simp only [Array.getElem?_setIfInBounds, Array.size_setIfInBounds]
  by_cases h1 : j = k <;> by_cases h2 : i = k <;> simp [h1, h2]

def drawX (C : Cfg) (ops : Array Oper) (κ : St → Prop) : Nat → Array Bool → St → Prop
  | 0, listed, σ => readyL ops listed = [] ∧ κ σ
  | f + 1, listed, σ => (readyL ops listed = [] → κ σ) ∧ ∀ i ∈ readyL ops listed, ∀ o, ops[i]? = some o → stepW C ops o σ (drawX C ops κ f (listed.setIfInBounds i true))

theorem swap (hC : C.Good) {x o : Oper} {σ : St} (hx : dcls C x.op = .pure ∨ dcls C x.op = .read) (hc : commB C ops x o = true) (hs : stepW C ops x σ fun σ' => stepW C ops o σ' κ) :
    stepW C ops o σ fun σ' => stepW C ops x σ' κ := by
  have hs' : execOps C ops ([x] ++ o :: []) σ κ := hs
  by_cases hp : dcls C o.op = .pure
  · have hs0 := hs
    rw [stepW_val hx] at hs0
    obtain ⟨u, hu, h1⟩ := hs0
    rw [stepW_val (.inl hp)] at h1
    obtain ⟨v, hv, _⟩ := h1
    have hc' := hc
    unfold commB at hc'
    rw [Bool.and_eq_true] at hc'
    obtain ⟨a1, a2, a3⟩ := apartB_ok hc'.1
    have hv0 : val C ops o σ = some v := by
      rw [← val_form (u := u) (h' := σ.h) hp a1]; exact hv
    rw [stepW_val (.inl hp)]
    exact ⟨v, hv0, pure_front2 hp [x] (fun j hj => by simp at hj; subst hj; exact hc) hv0 hs'⟩
  · exact other_front hC hp [x] (fun j hj => by simp at hj; subst hj; exact hc) hs'

theorem left_not {listed : Array Bool} {k : Nat} (hk : k ∈ left ops listed) (h : listed.getD k false = true) : False := by
  unfold left at hk
  rw [List.mem_filter] at hk
  have h2 := hk.2
  rw [Array.getD_eq_getD_getElem?] at h2 h
  cases hl : listed[k]? with
  | none => rw [hl] at h; simp at h
  | some b => rw [hl] at h h2; simp at h h2; rw [h] at h2; cases h2

theorem front (hC : C.Good) {i : Nat} {o : Oper} (ho : ops[i]? = some o) (hcl : dcls C o.op = .pure ∨ dcls C o.op = .read) (D : List Nat) : ∀ (f : Nat) (listed : Array Bool) (σ : St), i ∈ readyL ops listed →
    (∀ d ∈ D, d ∈ left ops listed ∧ d ≠ i ∧ ∃ x, ops[d]? = some x ∧ ∃ k ∈ edges x, k = i ∨ k ∈ D) →
    (∀ j ∈ left ops listed, j ≠ i → j ∉ D → ∀ x, ops[j]? = some x → commB C ops o x = true) → (left ops listed).length = f + 1 →
    stepW C ops o σ (drawX C ops κ f (listed.setIfInBounds i true)) → drawX C ops κ (f + 1) listed σ := by
  intro f
  induction f with
  | zero =>
    intro listed σ hi hD hcm hlen hs
    have hil := ((ready_iff listed i).1 hi).1
    refine ⟨fun h => (by rw [h] at hi; cases hi), ?_⟩
    intro j hj oj hoj
    have hjl := ((ready_iff listed j).1 hj).1
    have : j = i := by
      obtain ⟨a, ha⟩ := List.length_eq_one_iff.1 hlen
      rw [ha] at hil hjl
      simp at hil hjl
      rw [hil, hjl]
    subst this
    rw [ho] at hoj
    cases hoj
    exact hs
  | succ f ih =>
    intro listed σ hi hD hcm hlen hs
    have hil := ((ready_iff listed i).1 hi).1
    refine ⟨fun h => (by rw [h] at hi; cases hi), ?_⟩
    intro j hj oj hoj
    have hjl := ((ready_iff listed j).1 hj).1
    by_cases hji : j = i
    · subst hji
      rw [ho] at hoj
      cases hoj
      exact hs
    · have hjD : j ∉ D := by
        intro hjD
        obtain ⟨_, _, x, hx, k, hk, hk2⟩ := hD j hjD
        obtain ⟨_, x', hx', hed⟩ := (ready_iff listed j).1 hj
        rw [hx] at hx'
        cases hx'
        have hl := hed k hk
        rcases hk2 with rfl | hk2
        · exact left_not hil hl
        · exact left_not (hD k hk2).1 hl
      have h1 : stepW C ops o σ fun σ' => stepW C ops oj σ' (drawX C ops κ f ((listed.setIfInBounds i true).setIfInBounds j true)) := by
        refine stepW_mono ?_ hs
        intro σ' h
        exact h.2 j (ready_set hil hj hji) oj hoj
      have h2 := swap hC hcl (hcm j hjl hji hjD oj hoj) h1
      refine stepW_mono ?_ h2
      intro σ' h3
      rw [set_comm2] at h3
      refine ih _ σ' (ready_set hjl hi (fun h => hji h.symm)) ?_ ?_ (left_len hjl hlen) h3
      · intro d hd
        obtain ⟨d1, d2, d3⟩ := hD d hd
        exact ⟨(left_set hjl).2 ⟨d1, fun h => hjD (h ▸ hd)⟩, d2, d3⟩
      · intro k hk hki hkD x hx
        exact hcm k ((left_set hjl).1 hk).1 hki hkD x hx

theorem plan_draw (hC : C.Good) : ∀ (p : Plan) (listed : Array Bool) (σ : St) (f : Nat), (left ops listed).length = f →
    (planOk C ops false p listed = true → goPlan C ops κ p σ → drawX C ops κ f listed σ) ∧
    (∀ b, planOk C ops b p listed = true → goPlan C ops κ p σ → ∀ j ∈ p.heads, j ∈ readyL ops listed → ∀ o, ops[j]? = some o → ∀ g, f = g + 1 → stepW C ops o σ (drawX C ops κ g (listed.setIfInBounds j true)))
  | .done, listed, σ, f, hf => by
    refine ⟨?_, fun b _ _ j hj => by simp [Plan.heads] at hj⟩
    intro h hs
    simp only [planOk, List.isEmpty_iff] at h
    rw [h] at hf
    subst hf
    refine ⟨?_, hs⟩
    cases hr : readyL ops listed with
    | nil => rfl
    | cons i r =>
      have := ((ready_iff listed i).1 (by rw [hr]; simp)).1
      rw [h] at this; cases this
  | .first i p, listed, σ, f, hf => by
    refine ⟨?_, fun b _ _ j hj => by simp [Plan.heads] at hj⟩
    intro h hs
    simp only [planOk, Bool.and_eq_true, List.contains_iff_mem] at h
    obtain ⟨⟨h1, h2⟩, h3⟩ := h
    have hil := ((ready_iff listed i).1 h1).1
    unfold frontB at h2
    unfold goPlan opR at hs
    cases ho : ops[i]? with
    | none => rw [ho] at h2; simp at h2
    | some o =>
      rw [ho] at h2 hs
      simp only [Bool.and_eq_true] at h2
      obtain ⟨⟨h4, h6⟩, h5⟩ := h2
      cases f with
      | zero =>
        have := List.eq_nil_of_length_eq_zero hf
        rw [this] at hil; cases hil
      | succ f =>
        refine front hC ho ?_ (depsL ops i (left ops listed) []) f listed σ h1 ?_ ?_ hf ?_
        · revert h4
          cases dcls C o.op <;> simp
        · intro d hd
          have := (List.all_eq_true.1 h6) d hd
          simp only [Bool.and_eq_true, List.contains_iff_mem, bne_iff_ne, ne_eq] at this
          obtain ⟨⟨t1, t2⟩, t3⟩ := this
          refine ⟨t1, t2, ?_⟩
          cases hx : ops[d]? with
          | none => rw [hx] at t3; cases t3
          | some x =>
            rw [hx] at t3
            obtain ⟨k, hk, hk2⟩ := List.any_eq_true.1 t3
            refine ⟨x, rfl, k, hk, ?_⟩
            simpa using hk2
        · intro j hj hne hnd x hx
          have := (List.all_eq_true.1 h5) j hj
          rw [hx] at this
          simp only [Bool.or_eq_true, beq_iff_eq, List.contains_iff_mem] at this
          rcases this with h | h | h
          · exact absurd h hne
          · exact absurd h hnd
          · exact h
        · exact stepW_mono (fun σ' h => (plan_draw hC p _ σ' f (left_len hil hf)).1 h3 h) hs
  | .fork i p q, listed, σ, f, hf => by
    have second : ∀ b, planOk C ops b (.fork i p q) listed = true → goPlan C ops κ (.fork i p q) σ → ∀ j ∈ (Plan.fork i p q).heads, j ∈ readyL ops listed → ∀ o, ops[j]? = some o → ∀ g, f = g + 1 →
        stepW C ops o σ (drawX C ops κ g (listed.setIfInBounds j true)) := by
      intro b h hs j hj hjr o ho g hg
      have h' : planOk C ops false p (listed.setIfInBounds i true) = true ∧ planOk C ops true q listed = true := by
        cases b <;> simp only [planOk, Bool.and_eq_true] at h <;> exact ⟨h.1.2, h.2⟩
      obtain ⟨h3, h4⟩ := h'
      obtain ⟨s1, s2⟩ := hs
      by_cases hji : j = i
      · subst hji
        unfold opR at s1
        rw [ho] at s1
        have hjl := ((ready_iff listed j).1 hjr).1
        subst hg
        exact stepW_mono (fun σ' h => (plan_draw hC p _ σ' g (left_len hjl hf)).1 h3 h) s1
      · have hq : j ∈ q.heads := by
          simp only [Plan.heads, List.mem_cons] at hj
          exact hj.resolve_left hji
        exact (plan_draw hC q listed σ f hf).2 true h4 s2 j hq hjr o ho g hg
    refine ⟨?_, second⟩
    intro h hs
    have h0 := h
    simp only [planOk, Bool.and_eq_true, Bool.false_or, Bool.not_eq_true', List.isEmpty_eq_false_iff, ne_eq, List.all_eq_true, List.contains_iff_mem] at h
    obtain ⟨⟨⟨h1, h2⟩, h3⟩, h4⟩ := h
    cases f with
    | zero =>
      exfalso
      apply h1
      have hnil := List.eq_nil_of_length_eq_zero hf
      cases hr : readyL ops listed with
      | nil => rfl
      | cons i r =>
        have := ((ready_iff listed i).1 (by rw [hr]; simp)).1
        rw [hnil] at this; cases this
    | succ f =>
      refine ⟨fun h => absurd h h1, ?_⟩
      intro j hj o ho
      exact second false h0 hs j (h2 j hj) hj o ho f rfl
  | .stop, listed, σ, f, hf => ⟨fun h => by simp [planOk] at h, fun b _ _ j hj => by simp [Plan.heads] at hj⟩

theorem draw_wp (hC : C.Good) (hdst : ∀ o ∈ ops.toList, ∀ t, o.dst = some t → t < n) (hQ : ∀ σ a w, κ σ → Ok E w0 F n r0 σ a w → Q .normal a w) :
    ∀ (f : Nat) (listed : Array Bool) (σ : St) (a : Act) (w : World), Ok E w0 F n r0 σ a w → drawX C ops κ f listed σ → wpAny C.P .any ops Q f listed a w
  | 0, listed, σ, a, w, hr, h => ⟨h.1, hQ _ _ _ h.2 hr⟩
  | f + 1, listed, σ, a, w, hr, h => by
    refine ⟨fun h1 => hQ _ _ _ (h.1 h1) hr, ?_⟩
    intro i hi
    obtain ⟨_, o, ho, _⟩ := (ready_iff listed i).1 hi
    refine stepW_ok hC ho hr (hdst o (by have := Array.mem_of_getElem? ho; simpa using this)) (h.2 i hi o ho) ?_
    intro σ' a' w' h3 h4
    exact draw_wp hC hdst hQ f _ σ' a' w' h4 h3
end
end Go.Ax

namespace Go.Ax

def Cfg.fence (C : Cfg) : Fence := { Fence.wide with round := C.rd }

section
variable {P : Program} {r : Option Nat}
theorem rowsIn_of {row : String} {args : Array Value} {w : World} {R : Value → World → Prop} (h : Rows P row args w R) : RowsIn { Fence.wide with round := r } 0 P row args w R :=
  fun c cs _ => let ⟨v, w', r, s⟩ := h c cs; ⟨v, w', r, stepsIn_wide.2 s⟩
theorem operIn_of {o : Oper} {a : Act} {w : World} {K : Act → World → Prop} {Q : Exit → Act → World → Prop} (hd : r = none ∨ notDefer o.op = true) (h : o.wp P a w K Q) : o.wpIn { Fence.wide with round := r } 0 P a w K Q := by
  unfold Oper.wp at h
  refine ⟨fun _ _ => trivial, ?_⟩
  have he : o.semAt ({ Fence.wide with round := r } : Fence).round a.eval = execOp a.eval o := by
    rcases hd with rfl | hd
    · exact Oper.semAt_none _ _
    · refine Oper.semAt_eq _ _ _ ?_
      intro c hc
      rw [hc] at hd
      cases hd
  rw [he]
  generalize (execOp a.eval o).run P w = x at h
  cases x with
  | ok x w' =>
    cases x <;> simp only [Oper.upon] at h <;> simp only [Oper.uponIn] <;> first
      | exact h
      | exact h.elim
      | exact ⟨nofun, callsIn_wide.2 h⟩
      | exact ⟨nofun, rowsIn_of h⟩
  | halt x w' => cases x <;> simp only [Oper.upon] at h <;> simp only [Oper.uponIn] <;> exact h
theorem wpOpsIn_of {ops : Array Oper} {Q : Exit → Act → World → Prop} (hL : ¬ LetsOut Q) (hd : r = none ∨ ∀ o ∈ ops.toList, notDefer o.op = true) : ∀ (l : List Nat) (a : Act) (w : World), wpOps P ops Q l a w → wpOpsIn { Fence.wide with round := r } 0 P ops Q l a w
  | [], a, w, h => h
  | i :: l, a, w, h => by
    unfold wpOps at h
    unfold wpOpsIn
    cases ho : ops[i]? with
    | none => rw [ho] at h; exact wpOpsIn_of hL hd l a w h
    | some o =>
      rw [ho] at h
      simp only at h ⊢
      split at h
      · rename_i hw
        rw [if_pos hw]
        rcases h with h | h
        · have hdo : r = none ∨ notDefer o.op = true := hd.imp id fun hd => hd o (by
            obtain ⟨hlt, he⟩ := Array.getElem?_eq_some_iff.1 ho
            rw [← he]; simp)
          have := operIn_of hdo h
          refine ⟨this.1, ?_⟩
          have h2 := this.2
          revert h2
          generalize (o.semAt ({ Fence.wide with round := r } : Fence).round a.eval).run P w = x
          intro h2
          cases x with
          | ok x w' =>
            cases x <;> simp only [Oper.uponIn] at h2 ⊢ <;> first
              | exact wpOpsIn_of hL hd l _ _ h2
              | exact h2.elim
              | exact ⟨h2.1, h2.2.mono fun e w2 he => by cases e <;> first | exact wpOpsIn_of hL hd l _ _ he | exact he⟩
              | exact ⟨h2.1, h2.2.mono fun v w2 he => wpOpsIn_of hL hd l _ _ he⟩
          | halt x w' => cases x <;> simp only [Oper.uponIn] at h2 ⊢ <;> exact h2
        · exact absurd h.2 hL
      · rename_i hw
        rw [if_neg hw]
        exact ⟨fun _ _ => trivial, wpOpsIn_of hL hd l _ _ h⟩
end

def thenK (f : St → Prop) (κ : Exit → St → Prop) : Exit → St → Prop
  | .normal, σ => f σ
  | ex, σ => κ ex σ

def blockK (id : Nat) (κ : Exit → St → Prop) : Exit → St → Prop
  | .exit id', σ => if id' = id then κ .normal σ else κ (.exit id') σ
  | ex, σ => κ ex σ

def AWP (C : Cfg) (c : Code) (κ : Exit → St → Prop) (σ : St) : Prop :=
  ∀ (E : Nat → Prop) (w0 : World) (F : Nat → Prop) (n : Nat) (r0 : List (Option Nat)) (a : Act) (w : World), r0.length = C.k → Code.dstOk n c = true → Ok E w0 F n r0 σ a w →
    c.wpIn C.fence 0 C.P (fun ex a' w' => ∃ σ', κ ex σ' ∧ Ok E w0 F n r0 σ' a' w') a w

def condK (c : AV) (x y : Prop) : Prop :=
  match c with
  | .v (.bool t) => if t = true then x else y
  | _ => False

def exec (C : Cfg) : Code → St → (Exit → St → Prop) → Prop
  | .skip, σ, κ => κ .normal σ
  | .region id ops d, σ, κ => if C.odd.contains id = true then AWP C (.region id ops d) κ σ else execOps C ops ops.toList σ (κ .normal)
  | .seq a b, σ, κ => exec C a σ (thenK (fun σ' => exec C b σ' κ) κ)
  | .cond c x y, σ, κ => condK (ev σ.e c) (exec C x σ κ) (exec C y σ κ)
  | .block id b, σ, κ => exec C b σ (blockK id κ)
  | .loop b, σ, κ => AWP C (.loop b) κ σ
  | .exit id, σ, κ => κ (.exit id) σ
  | .ret, σ, κ => κ .ret σ
  | .rangeFunc g ps a b, σ, κ => AWP C (.rangeFunc g ps a b) κ σ
  | _, _, _ => False

section
variable {C : Cfg} {E : Nat → Prop} {w0 : World} {F : Nat → Prop} {n : Nat} {r0 : List (Option Nat)}

theorem AWP.mono {c : Code} {κ κ' : Exit → St → Prop} {σ : St} (h : AWP C c κ σ) (hk : ∀ ex σ, κ ex σ → κ' ex σ) : AWP C c κ' σ :=
  fun E w0 F n r0 a w hk0 hd hr => wpIn_mono (h E w0 F n r0 a w hk0 hd hr) fun _ _ _ ⟨σ', h1, h2⟩ => ⟨σ', hk _ _ h1, h2⟩

theorem execOps_wp (hC : C.Good) {ops : Array Oper} {κ : St → Prop} {Q : Exit → Act → World → Prop} (hQ : ∀ σ a w, κ σ → Ok E w0 F n r0 σ a w → Q .normal a w) :
    ∀ (l : List Oper) (σ : St) (a : Act) (w : World), (∀ o ∈ l, ∀ t, o.dst = some t → t < n) → Ok E w0 F n r0 σ a w → execOps C ops l σ κ → wpList C.P ops Q l a w
  | [], σ, a, w, _, hr, hs => hQ _ _ _ hs hr
  | o :: l, σ, a, w, hd, hr, hs => by
    have hs : stepW C ops o σ fun σ' => execOps C ops l σ' κ := hs
    unfold stepW at hs
    rw [wantA_iff] at hs
    unfold wpList
    rcases hs with ⟨hw, hs⟩ | ⟨hw, hs⟩
    · rw [if_pos (wantB_real hr hw)]
      exact .inl (step1_ok hC hr (hd o (by simp)) hs fun σ' a' w' h1 h2 => execOps_wp hC hQ l σ' a' w' (fun x hx => hd x (by simp [hx])) h2 h1)
    · rw [if_neg (by rw [wantB_real hr hw]; simp)]
      obtain ⟨ρ, hr⟩ := hr
      exact execOps_wp hC hQ l _ _ _ (fun x hx => hd x (by simp [hx])) (put_cap hr (hd o (by simp)) (by simp only [AV.relV]; exact ⟨#[], rfl, by simp [relVs]⟩)) hs

theorem Ok.drew {σ : St} {a : Act} {w : World} (h : Ok E w0 F n r0 σ a w) : Ok E w0 F n r0 σ a w.drew := by obtain ⟨ρ, h⟩ := h; exact ⟨ρ, h.drew⟩

theorem execOps_region (hC : C.Good) {id : Nat} {ops : Array Oper} {d : Bool} {κ : Exit → St → Prop} {σ : St} {a : Act} {w : World} (hd : Code.dstOk n (.region id ops d) = true) (hw : (!d || orderOk C ops) = true)
    (hr : Ok E w0 F n r0 σ a w) (hnd : C.rd = none ∨ ∀ o ∈ ops.toList, notDefer o.op = true) (hs : execOps C ops ops.toList σ (κ .normal)) : (Code.region id ops d).wpIn C.fence 0 C.P (fun ex a' w' => ∃ σ', κ ex σ' ∧ Ok E w0 F n r0 σ' a' w') a w := by
  have hL : ¬ LetsOut (fun ex a' w' => ex = Exit.normal ∧ ∃ σ', κ .normal σ' ∧ Ok E w0 F n r0 σ' a' w') := by rintro ⟨a, w, h, _⟩; cases h
  refine wpIn_mono (Q := fun ex a' w' => ex = Exit.normal ∧ ∃ σ', κ .normal σ' ∧ Ok E w0 F n r0 σ' a' w') ?_ (by rintro ex a' w' ⟨rfl, h⟩; exact h)
  have hdst : ∀ o ∈ ops.toList, ∀ t, o.dst = some t → t < n := by
    intro o ho t ht
    simp only [Code.dstOk, List.all_eq_true] at hd
    have := hd o ho
    rw [ht] at this
    simpa using this
  cases d with
  | false =>
    have h0 := execOps_wp (ops := ops) (Q := fun ex a' w' => ex = Exit.normal ∧ ∃ σ', κ .normal σ' ∧ Ok E w0 F n r0 σ' a' w') hC (fun σ a w h1 h2 => ⟨rfl, σ, h1, h2⟩) _ σ a w hdst hr hs
    rw [← wpOps_eq_wpList ops.toList 0 (by simp)] at h0
    refine wpIn_region ?_
    rw [List.range_eq_range', ← Array.length_toList]
    exact wpOpsIn_of hL hnd _ _ _ h0
  | true =>
    simp only [Bool.not_true, Bool.false_or] at hw
    refine wpIn_region_draw fun t => ?_
    simp only [Region.schedule, hC.1, Bool.true_or, if_true]
    refine wpOpsIn_of hL hnd _ _ _ (wpAny_sound ops.size t _ a _ ?_)
    have hleft : left ops (Array.replicate ops.size false) = List.range ops.size := by
      unfold left
      refine List.filter_eq_self.2 ?_
      intro i hi
      rw [Array.getD_eq_getD_getElem?]
      simp [List.mem_range.1 hi]
    have hall : (List.range ops.size).filterMap (ops[·]?) = ops.toList := by
      have key : ∀ (l : List Oper) (k : Nat), k ≤ l.length → (List.range k).filterMap (l[·]?) = l.take k := by
        intro l k
        induction k with
        | zero => intro _; simp
        | succ k ih =>
          intro hk
          rw [List.range_succ, List.filterMap_append, ih (by omega), List.take_add_one, List.filterMap_cons]
          cases h : l[k]? <;> rfl
      have := key ops.toList ops.size (by simp)
      rw [List.take_of_length_le (by simp)] at this
      have hfun : (fun (i : Nat) => ops[i]?) = (fun (i : Nat) => ops.toList[i]?) := by funext i; simp
      show (List.range ops.size).filterMap (fun i => ops[i]?) = ops.toList
      rw [hfun]; exact this
    refine draw_any hC hw hdst (fun σ a w h1 h2 => ⟨rfl, σ, h1, h2⟩) _ _ σ a _ (by simp) hr.drew ?_ (by rw [hleft]; simp) (by rw [hleft, hall]; exact hs)
    intro k o _ hk
    rw [Array.getD_eq_getD_getElem?] at hk
    exfalso
    rw [Array.getElem?_replicate] at hk
    split at hk <;> simp at hk

theorem plan_wp (hC : C.Good) {id : Nat} {ops : Array Oper} {κ : Exit → St → Prop} {σ : St} (p : Plan) (hok : planOk C ops false p (Array.replicate ops.size false) = true)
    (hs : goPlan C ops (κ .normal) p σ) (hrd : C.rd = none) : AWP C (.region id ops true) κ σ := by
  intro E w0 F n r0 a w _ hd hr
  have hdst : ∀ o ∈ ops.toList, ∀ t, o.dst = some t → t < n := by
    intro o ho t ht
    simp only [Code.dstOk, List.all_eq_true] at hd
    have := hd o ho
    rw [ht] at this
    simpa using this
  have hfe : C.fence = Fence.wide := by unfold Cfg.fence; rw [hrd]; rfl
  rw [hfe]
  refine wpIn_wide.2 ?_
  refine wp_region_any hC.1 ?_
  have hleft : left ops (Array.replicate ops.size false) = List.range ops.size := by
    unfold left
    refine List.filter_eq_self.2 ?_
    intro i hi
    rw [Array.getD_eq_getD_getElem?]
    simp [List.mem_range.1 hi]
  refine draw_wp hC hdst (κ := κ .normal) (fun σ a w h1 h2 => ⟨σ, h1, h2⟩) _ _ σ a _ hr.drew ?_
  exact (plan_draw hC p _ σ _ (by rw [hleft]; simp)).1 hok hs

theorem exec_wp (hC : C.Good) : ∀ (c : Code) (κ : Exit → St → Prop) (σ : St), drawOk C c = true → exec C c σ κ → AWP C c κ σ
  | .skip, κ, σ, _, hs => fun E w0 F n r0 a w _ _ hr => wpIn_skip ⟨σ, hs, hr⟩
  | .region id ops d, κ, σ, hw, hs => fun E w0 F n r0 a w hk0 hd hr => by
    simp only [exec] at hs
    simp only [drawOk, Bool.or_eq_true, Bool.and_eq_true] at hw
    split at hs
    · exact hs E w0 F n r0 a w hk0 hd hr
    · rename_i hodd
      rcases hw with hw | hw
      · exact absurd hw.1 hodd
      · refine execOps_region hC hd (by simpa using hw.1) hr ?_ hs
        exact hw.2.imp (fun h => Option.isNone_iff_eq_none.1 h) (fun h => List.all_eq_true.1 h)
  | .seq x y, κ, σ, hw, hs => fun E w0 F n r0 a w hk0 hd hr => by
    simp only [drawOk, Bool.and_eq_true] at hw
    simp only [Code.dstOk, Bool.and_eq_true] at hd
    refine wpIn_seq (wpIn_mono (exec_wp hC x _ σ hw.1 hs E w0 F n r0 a w hk0 hd.1 hr) ?_)
    rintro ex a' w' ⟨σ', h1, h2⟩
    cases ex <;> first
      | exact exec_wp hC y κ σ' hw.2 h1 E w0 F n r0 a' w' hk0 hd.2 h2
      | exact ⟨σ', h1, h2⟩
  | .cond c x y, κ, σ, hw, hs => fun E w0 F n r0 a w hk0 hd hr => by
    simp only [drawOk, Bool.and_eq_true] at hw
    simp only [Code.dstOk, Bool.and_eq_true] at hd
    simp only [exec] at hs
    unfold condK at hs
    split at hs
    · rename_i t heq
      obtain ⟨ρ, hr'⟩ := hr
      have h1 := hr'.ev c
      rw [heq] at h1
      simp only [AV.relV, AV.rel] at h1
      have h1 := h1.1
      injection h1 with h1 _
      cases t with
      | true =>
        rw [if_pos rfl] at hs
        exact wpIn_cond_true h1 (exec_wp hC x κ σ hw.1 hs E w0 F n r0 a w hk0 hd.1 ⟨ρ, hr'⟩)
      | false =>
        rw [if_neg (by simp)] at hs
        exact wpIn_cond_false h1 (exec_wp hC y κ σ hw.2 hs E w0 F n r0 a w hk0 hd.2 ⟨ρ, hr'⟩)
    · exact hs.elim
  | .block id b, κ, σ, hw, hs => fun E w0 F n r0 a w hk0 hd hr => by
    refine wpIn_block (wpIn_mono (exec_wp hC b _ σ hw hs E w0 F n r0 a w hk0 hd hr) ?_)
    rintro ex a' w' ⟨σ', h1, h2⟩
    cases ex with
    | exit id' =>
      unfold blockK at h1
      unfold Exit.inBlock
      simp only at h1 ⊢
      split
      · rename_i h; rw [if_pos h] at h1; exact ⟨σ', h1, h2⟩
      · rename_i h; rw [if_neg h] at h1; exact ⟨σ', h1, h2⟩
    | _ => exact ⟨σ', h1, h2⟩
  | .loop b, κ, σ, _, hs => hs
  | .exit id, κ, σ, _, hs => fun E w0 F n r0 a w _ _ hr => wpIn_exit ⟨σ, hs, hr⟩
  | .ret, κ, σ, _, hs => fun E w0 F n r0 a w _ _ hr => wpIn_ret ⟨σ, hs, hr⟩
  | .rangeFunc .., _, _, _, hs => hs
  | .scope _, _, _, _, hs => hs.elim
  | .label _, _, _, _, hs => hs.elim
  | .goto _, _, _, _, hs => hs.elim
  | .refuse _, _, _, _, hs => hs.elim
end
end Go.Ax

namespace Go.Ax
variable {X : Nat → Prop} {w w' : World}
structure KeepC (X X' : Nat → Prop) (w w' : World) : Prop where
  cells : ∀ a vs, cellsAt w a vs → ¬ X a.block → cellsAt w' a vs ∧ ¬ X' a.block
  room : ∀ r n, room w r n → room w' r n
theorem roAt.keepC {X' : Nat → Prop} {n : Nat} {vs cs : List Value} (h : roAt X w n vs cs) (k : KeepC X X' w w') : roAt X' w' n vs cs := by
  rcases h with ⟨a, c, h1, h2, h3, h4, h5⟩ | h
  · exact .inl ⟨a, c, h1, h2, (k.cells _ _ h4 h3).2, (k.cells _ _ h4 h3).1, h5⟩
  · exact .inr h
mutual
theorem rel_keepC {X' : Nat → Prop} (k : KeepC X X' w w') : ∀ (p : AV) (ρ ρ' : List (Option Nat)) (cs : List Value),
    (∀ (b : Nat) o, ρ[b]? = some o → ρ'[b]? = some o) → AV.rel X w ρ p cs → AV.rel X' w' ρ' p cs
  | .v x, ρ, ρ', cs, hr, h => by simpa only [AV.rel] using h
  | .arr n k l, ρ, ρ', cs, hr, h => by simpa only [AV.rel] using h
  | .agg ps, ρ, ρ', cs, hr, h => by simp only [AV.rel] at h ⊢; exact relAll_keepC k ps ρ ρ' cs hr h
  | .tup ps, ρ, ρ', cs, hr, h => by simp only [AV.rel] at h
  | .ptr b base i, ρ, ρ', cs, hr, h => by simp only [AV.rel] at h ⊢; obtain ⟨r, h1, h2⟩ := h; exact ⟨r, hr _ _ h1, h2⟩
  | .sl b base sz off len cap, ρ, ρ', cs, hr, h => by
    simp only [AV.rel] at h ⊢
    rcases h with ⟨r, o, h1, h2, h3, h4, h5⟩ | ⟨h1, h2⟩
    · exact .inl ⟨r, o, hr _ _ h1, h2, k.room _ _ h3, h4.imp id (fun h => ⟨h.1, k.room _ _ h.2⟩), h5⟩
    · exact .inr ⟨hr _ _ h1, h2⟩
  | .roI kk l, ρ, ρ', cs, hr, h => by simp only [AV.rel] at h ⊢; exact h.keepC k
  | .roL sz es, ρ, ρ', cs, hr, h => by
    simp only [AV.rel] at h ⊢
    obtain ⟨vs, h1, h2, h3⟩ := h
    exact ⟨vs, relAll_keepC k es [] [] vs (fun _ _ h => h) h1, h2.keepC k, h3⟩
  | .rop x, ρ, ρ', cs, hr, h => by
    simp only [AV.rel] at h ⊢
    obtain ⟨a, vs, h1, h2, h3, h4, h5⟩ := h
    exact ⟨a, vs, h1, h2, (k.cells _ _ h5 h3).2, rel_keepC k x [] [] vs (fun _ _ h => h) h4, (k.cells _ _ h5 h3).1⟩
  | .lst sz es, ρ, ρ', cs, hr, h => by
    simp only [AV.rel] at h ⊢
    exact ⟨relAll_keepC k es [] [] cs (fun _ _ h => h) h.1, h.2⟩
  | .fn f a b, ρ, ρ', cs, hr, h => by
    simp only [AV.rel] at h ⊢
    obtain ⟨f1, c1, h1, h2, h3⟩ := h
    exact ⟨f1, c1, h1, relVs_keepC k a ρ ρ' _ hr h2, relVs_keepC k b ρ ρ' _ hr h3⟩
  | .any, ρ, ρ', cs, hr, h => by simpa only [AV.rel] using h
theorem relAll_keepC {X' : Nat → Prop} (k : KeepC X X' w w') : ∀ (ps : List AV) (ρ ρ' : List (Option Nat)) (cs : List Value),
    (∀ (b : Nat) o, ρ[b]? = some o → ρ'[b]? = some o) → relAll X w ρ ps cs → relAll X' w' ρ' ps cs
  | [], ρ, ρ', cs, hr, h => by simpa only [relAll] using h
  | p :: ps, ρ, ρ', cs, hr, h => by
    simp only [relAll] at h ⊢
    obtain ⟨a, b, h0, h1, h2⟩ := h
    exact ⟨a, b, h0, rel_keepC k p ρ ρ' a hr h1, relAll_keepC k ps ρ ρ' b hr h2⟩
theorem relV_keepC {X' : Nat → Prop} (k : KeepC X X' w w') : ∀ (p : AV) (ρ ρ' : List (Option Nat)) (v : Value),
    (∀ (b : Nat) o, ρ[b]? = some o → ρ'[b]? = some o) → AV.relV X w ρ p v → AV.relV X' w' ρ' p v
  | .any, ρ, ρ', v, hr, h => by simp only [AV.relV]
  | .arr n k l, ρ, ρ', v, hr, h => by simpa only [AV.relV] using h
  | .agg ps, ρ, ρ', v, hr, h => by
    simp only [AV.relV] at h ⊢
    obtain ⟨cs, h1, h2⟩ := h
    exact ⟨cs, h1, relAll_keepC k ps ρ ρ' _ hr h2⟩
  | .tup ps, ρ, ρ', v, hr, h => by
    simp only [AV.relV] at h ⊢
    obtain ⟨cs, h1, h2⟩ := h
    exact ⟨cs, h1, relVs_keepC k ps ρ ρ' _ hr h2⟩
  | .v x, ρ, ρ', cs, hr, h => by simp only [AV.relV] at h ⊢; exact rel_keepC k _ ρ ρ' _ hr h
  | .ptr b base i, ρ, ρ', cs, hr, h => by simp only [AV.relV] at h ⊢; exact rel_keepC k _ ρ ρ' _ hr h
  | .sl b base sz off len cap, ρ, ρ', cs, hr, h => by simp only [AV.relV] at h ⊢; exact rel_keepC k _ ρ ρ' _ hr h
  | .roI kk l, ρ, ρ', cs, hr, h => by simp only [AV.relV] at h ⊢; exact rel_keepC k _ ρ ρ' _ hr h
  | .roL sz es, ρ, ρ', cs, hr, h => by simp only [AV.relV] at h ⊢; exact rel_keepC k (.roL sz es) ρ ρ' _ hr h
  | .rop x, ρ, ρ', cs, hr, h => by simp only [AV.relV] at h ⊢; exact rel_keepC k (.rop x) ρ ρ' _ hr h
  | .lst sz es, ρ, ρ', cs, hr, h => by simp only [AV.relV] at h ⊢; exact rel_keepC k (.lst sz es) ρ ρ' _ hr h
  | .fn f a b, ρ, ρ', cs, hr, h => by simp only [AV.relV] at h ⊢; exact rel_keepC k (.fn f a b) ρ ρ' _ hr h
theorem relVs_keepC {X' : Nat → Prop} (k : KeepC X X' w w') : ∀ (ps : List AV) (ρ ρ' : List (Option Nat)) (cs : List Value),
    (∀ (b : Nat) o, ρ[b]? = some o → ρ'[b]? = some o) → relVs X w ρ ps cs → relVs X' w' ρ' ps cs
  | [], ρ, ρ', cs, hr, h => by simpa only [relVs] using h
  | p :: ps, ρ, ρ', cs, hr, h => by
    simp only [relVs] at h ⊢
    obtain ⟨a, b, h0, h1, h2⟩ := h
    exact ⟨a, b, h0, relV_keepC k p ρ ρ' a hr h1, relVs_keepC k ps ρ ρ' b hr h2⟩
end
def isC : Obj → Bool
  | .cells .. => true
  | _ => false
theorem ne_of_cells {l r : Nat} {o : Obj} (hl : w.heap[l]? = some o) (ho : isC o = false) {c : Array Value} {e : TypeId} {fz : Nat × Nat} (hr : w.heap[r]? = some (.cells c e fz)) : r ≠ l := by
  rintro rfl
  rw [hr] at hl; cases hl; cases ho
theorem putObj_at {l : Nat} (o' : Obj) {r : Nat} (h : r ≠ l) : (w.putObj l o').heap[r]? = w.heap[r]? := World.putObj_heap_other h
theorem KeepC.putObj {l : Nat} {o : Obj} (o' : Obj) (hl : w.heap[l]? = some o) (ho : isC o = false) : KeepC X X w (w.putObj l o') := by
  refine ⟨?_, ?_⟩
  · rintro a vs ⟨c, e, fz, h, t⟩ hx
    exact ⟨⟨c, e, fz, (putObj_at o' (ne_of_cells hl ho h)).trans h, t⟩, hx⟩
  · rintro r n ⟨c, e, fz, h, t⟩
    exact ⟨c, e, fz, (putObj_at o' (ne_of_cells hl ho h)).trans h, t⟩
theorem HRel.putObj {ρ : List (Option Nat)} {h : List Blk} {l : Nat} {o : Obj} (o' : Obj) (hh : HRel X ρ h w) (hl : w.heap[l]? = some o) (ho : isC o = false) : HRel X ρ h (w.putObj l o') := by
  refine ⟨hh.len, ?_, hh.inj⟩
  intro b ps hb
  have h1 := hh.blk b ps hb
  unfold BRel at h1 ⊢
  split at h1
  · obtain ⟨c, e, fz, h2, h3, cs, post, h4, h5⟩ := h1
    exact ⟨c, e, fz, (putObj_at o' (ne_of_cells hl ho h2)).trans h2, h3, cs, post, h4, relAll_keepC (KeepC.putObj o' hl ho) ps _ _ cs (fun _ _ h => h) h5⟩
  · exact relAll_keepC (KeepC.putObj o' hl ho) ps _ _ [] (fun _ _ h => h) h1
  · exact h1.elim
section
variable {E : Nat → Prop} {w0 : World} {F : Nat → Prop} {n : Nat} {r0 ρ : List (Option Nat)} {σ : St} {a a' : Act}
theorem Rep.putObj (hr : Rep E w0 F n r0 ρ σ a w) {l : Nat} {o : Obj} (o' : Obj) (hl : w.heap[l]? = some o) (ho : isC o = false) (hw : F l ∨ w0.heap.size ≤ l) (ht : a'.tmps = a.tmps) (hm : Marks w0 F a' (w.putObj l o')) :
    Rep E w0 F n r0 ρ σ a' (w.putObj l o') := by
  refine ⟨fun i => ?_, by rw [ht]; exact hr.sz, hm, hr.hp.putObj o' hl ho, ?_, hr.ow, hr.el, hr.ex⟩
  · rw [ht]; exact relV_keepC (KeepC.putObj o' hl ho) _ _ _ _ (fun _ _ h => h) (hr.tm i)
  · refine ⟨?_, ?_, ?_, hr.fr.os, hr.fr.out, hr.fr.tape⟩
    · have := hr.fr.size; simpa [World.putObj] using this
    · intro r h1 h2
      rw [putObj_at o' (by rintro rfl; rcases hw with hw | hw; exact h2 hw; omega)]; exact hr.fr.same r h1 h2
    · intro r m h1; exact (KeepC.putObj (X := fun _ => False) o' hl ho).room r m (hr.fr.room r m h1)
theorem Rep.allocO (hr : Rep E w0 F n r0 ρ σ a w) (o : Obj) : Rep E w0 F n r0 ρ σ a (w.alloc o) :=
  hr.step (ρ' := ρ) (h' := σ.h) Frame.alloc (fun _ _ h => h) (fun _ h => .inl h)
    ⟨hr.hp.len, fun b ps hb => (hr.hp.blk b ps hb).keep (X := XOf E ρ σ.h) (Frame.alloc.keep) (fun _ _ h => h) (fun _ _ h => h) (fun r hr' => heap_alloc_old w o r (by
      have h1 := hr.hp.blk b ps hb
      rw [hr'] at h1; exact h1.lt)), hr.hp.inj⟩
def shut (w : World) : List Nat → World
  | [] => w
  | D :: Ds => shut (w.putObj D (.deferred none)) Ds
theorem Rep.shut : ∀ (Ds : List Nat) (w : World) (a : Act), Rep E w0 F n r0 ρ σ a w → Ds.Nodup → (∀ D ∈ Ds, (F D ∨ w0.heap.size ≤ D) ∧ w.heap[D]? = some (.deferred (some []))) → Rep E w0 F n r0 ρ σ { a with defers := [] } (Ax.shut w Ds)
  | [], w, a, hr, _, _ => ⟨hr.tm, hr.sz, Marks.none rfl, hr.hp, hr.fr, hr.ow, hr.el, hr.ex⟩
  | D :: Ds, w, a, hr, hn, hd => by
    have h1 := hd D (by simp)
    rw [List.nodup_cons] at hn
    have h2 := Rep.putObj (a' := { a with defers := [] }) hr (.deferred none) h1.2 rfl h1.1 rfl (Marks.none rfl)
    refine Rep.shut Ds _ { a with defers := [] } h2 hn.2 ?_
    intro D' hD'
    refine ⟨(hd D' (by simp [hD'])).1, ?_⟩
    rw [putObj_at _ (by rintro rfl; exact hn.1 hD')]
    exact (hd D' (by simp [hD'])).2
end
theorem leaves_marks {P : Program} {G : Fence} {m : Nat} {fn : Func} {tmps : Array Value} {R : Ending → World → Prop} : ∀ (Ds : List Nat) (w : World), Ds.Nodup → (∀ D ∈ Ds, w.heap[D]? = some (.deferred (some []))) →
    (∃ v, (results fn tmps).run P (shut w Ds) = .ok v (shut w Ds) ∧ R (.returned v) (shut w Ds)) → LeavesInM G m P fn tmps R (Ds.map mark) .returning w
  | [], w, _, _, h => h
  | D :: Ds, w, hn, hd, h => by
    rw [List.nodup_cons] at hn
    refine ⟨by simp, .inl ⟨D, _, rfl, run_takeDeferred (hd D (by simp)), leaves_marks Ds _ hn.2 ?_ h⟩⟩
    intro D' hD'
    rw [putObj_at _ (by rintro rfl; exact hn.1 hD')]
    exact hd D' (by simp [hD'])
end Go.Ax

namespace Go.Ax

mutual
def AV.ren (f : Nat → Nat) : AV → AV
  | .ptr b base i => .ptr (f b) base i
  | .sl b base sz off len cap => .sl (f b) base sz off len cap
  | .agg ps => .agg (renL f ps)
  | .tup ps => .tup (renL f ps)
  | .fn g a b => .fn g (renL f a) (renL f b)
  | .v x => .v x
  | .arr n k l => .arr n k l
  | .roI k l => .roI k l
  | .roL sz es => .roL sz es
  | .rop x => .rop x
  | .lst sz es => .lst sz es
  | .any => .any
def renL (f : Nat → Nat) : List AV → List AV
  | [] => []
  | p :: ps => p.ren f :: renL f ps
end

def renB (f : Nat → Nat) : Blk → Blk := Option.map (renL f)

section
variable {X : Nat → Prop} {w : World} {f : Nat → Nat} {ρ ρ' : List (Option Nat)}

mutual
theorem ren_rel (hf : ∀ (b : Nat) o, ρ'[b]? = some o → ρ[f b]? = some o) : ∀ (p : AV) (cs : List Value), AV.rel X w ρ' p cs → AV.rel X w ρ (p.ren f) cs
  | .v x, cs, h => by simpa only [AV.ren, AV.rel] using h
  | .arr n k l, cs, h => by simpa only [AV.ren, AV.rel] using h
  | .agg ps, cs, h => by simp only [AV.ren, AV.rel] at h ⊢; exact renL_rel hf ps cs h
  | .tup ps, cs, h => by simp only [AV.rel] at h
  | .ptr b base i, cs, h => by simp only [AV.ren, AV.rel] at h ⊢; obtain ⟨r, h1, h2⟩ := h; exact ⟨r, hf _ _ h1, h2⟩
  | .sl b base sz off len cap, cs, h => by
    simp only [AV.ren, AV.rel] at h ⊢
    rcases h with ⟨r, o, h1, h2⟩ | ⟨h1, h2⟩
    · exact .inl ⟨r, o, hf _ _ h1, h2⟩
    · exact .inr ⟨hf _ _ h1, h2⟩
  | .roI k l, cs, h => by simpa only [AV.ren, AV.rel] using h
  | .roL sz es, cs, h => by simpa only [AV.ren, AV.rel] using h
  | .rop x, cs, h => by simpa only [AV.ren, AV.rel] using h
  | .lst sz es, cs, h => by simpa only [AV.ren, AV.rel] using h
  | .fn g a b, cs, h => by
    simp only [AV.ren, AV.rel] at h ⊢
    obtain ⟨f1, c1, h1, h2, h3⟩ := h
    exact ⟨f1, c1, h1, renVs_rel hf a _ h2, renVs_rel hf b _ h3⟩
  | .any, cs, h => by simpa only [AV.ren, AV.rel] using h
theorem renL_rel (hf : ∀ (b : Nat) o, ρ'[b]? = some o → ρ[f b]? = some o) : ∀ (ps : List AV) (cs : List Value), relAll X w ρ' ps cs → relAll X w ρ (renL f ps) cs
  | [], cs, h => by simpa only [renL, relAll] using h
  | p :: ps, cs, h => by
    simp only [relAll] at h
    obtain ⟨a, b, h0, h1, h2⟩ := h
    simp only [renL, relAll]
    exact ⟨a, b, h0, ren_rel hf p a h1, renL_rel hf ps b h2⟩
theorem renV_rel (hf : ∀ (b : Nat) o, ρ'[b]? = some o → ρ[f b]? = some o) : ∀ (p : AV) (v : Value), AV.relV X w ρ' p v → AV.relV X w ρ (p.ren f) v
  | .any, v, h => by simp only [AV.ren, AV.relV]
  | .arr n k l, v, h => by simpa only [AV.ren, AV.relV] using h
  | .agg ps, v, h => by
    simp only [AV.relV] at h; obtain ⟨cs, h1, h2⟩ := h
    simp only [AV.ren, AV.relV]; exact ⟨cs, h1, renL_rel hf ps _ h2⟩
  | .tup ps, v, h => by
    simp only [AV.relV] at h; obtain ⟨cs, h1, h2⟩ := h
    simp only [AV.ren, AV.relV]; exact ⟨cs, h1, renVs_rel hf ps _ h2⟩
  | .v x, v, h => by simp only [AV.relV] at h; have := ren_rel hf _ _ h; simpa only [AV.ren, AV.relV] using this
  | .ptr b base i, v, h => by simp only [AV.relV] at h; have := ren_rel hf _ _ h; simpa only [AV.ren, AV.relV] using this
  | .sl b base sz off len cap, v, h => by simp only [AV.relV] at h; have := ren_rel hf _ _ h; simpa only [AV.ren, AV.relV] using this
  | .roI k l, v, h => by simpa only [AV.ren, AV.relV, AV.rel] using h
  | .roL sz es, v, h => by simpa only [AV.ren, AV.relV, AV.rel] using h
  | .rop x, v, h => by simpa only [AV.ren, AV.relV, AV.rel] using h
  | .lst sz es, v, h => by simpa only [AV.ren, AV.relV, AV.rel] using h
  | .fn g a b, v, h => by simp only [AV.relV] at h; have := ren_rel hf (.fn g a b) _ h; simpa only [AV.ren, AV.relV] using this
theorem renVs_rel (hf : ∀ (b : Nat) o, ρ'[b]? = some o → ρ[f b]? = some o) : ∀ (ps : List AV) (cs : List Value), relVs X w ρ' ps cs → relVs X w ρ (renL f ps) cs
  | [], cs, h => by simpa only [renL, relVs] using h
  | p :: ps, cs, h => by
    simp only [relVs] at h
    obtain ⟨a, b, h0, h1, h2⟩ := h
    simp only [renL, relVs]
    exact ⟨a, b, h0, renV_rel hf p a h1, renVs_rel hf ps b h2⟩
end

mutual
theorem rel_ren (hf : ∀ (b : Nat) o, ρ[f b]? = some o → ρ'[b]? = some o) : ∀ (p : AV) (cs : List Value), AV.rel X w ρ (p.ren f) cs → AV.rel X w ρ' p cs
  | .v x, cs, h => by simpa only [AV.ren, AV.rel] using h
  | .arr n k l, cs, h => by simpa only [AV.ren, AV.rel] using h
  | .agg ps, cs, h => by simp only [AV.ren, AV.rel] at h ⊢; exact relL_ren hf ps cs h
  | .tup ps, cs, h => by simp only [AV.ren, AV.rel] at h
  | .ptr b base i, cs, h => by simp only [AV.ren, AV.rel] at h ⊢; obtain ⟨r, h1, h2⟩ := h; exact ⟨r, hf _ _ h1, h2⟩
  | .sl b base sz off len cap, cs, h => by
    simp only [AV.ren, AV.rel] at h ⊢
    rcases h with ⟨r, o, h1, h2⟩ | ⟨h1, h2⟩
    · exact .inl ⟨r, o, hf _ _ h1, h2⟩
    · exact .inr ⟨hf _ _ h1, h2⟩
  | .roI k l, cs, h => by simpa only [AV.ren, AV.rel] using h
  | .roL sz es, cs, h => by simpa only [AV.ren, AV.rel] using h
  | .rop x, cs, h => by simpa only [AV.ren, AV.rel] using h
  | .lst sz es, cs, h => by simpa only [AV.ren, AV.rel] using h
  | .fn g a b, cs, h => by
    simp only [AV.ren, AV.rel] at h ⊢
    obtain ⟨f1, c1, h1, h2, h3⟩ := h
    exact ⟨f1, c1, h1, relVs_ren hf a _ h2, relVs_ren hf b _ h3⟩
  | .any, cs, h => by simpa only [AV.ren, AV.rel] using h
theorem relL_ren (hf : ∀ (b : Nat) o, ρ[f b]? = some o → ρ'[b]? = some o) : ∀ (ps : List AV) (cs : List Value), relAll X w ρ (renL f ps) cs → relAll X w ρ' ps cs
  | [], cs, h => by simpa only [renL, relAll] using h
  | p :: ps, cs, h => by
    simp only [renL, relAll] at h
    obtain ⟨a, b, h0, h1, h2⟩ := h
    simp only [relAll]
    exact ⟨a, b, h0, rel_ren hf p a h1, relL_ren hf ps b h2⟩
theorem relV_ren (hf : ∀ (b : Nat) o, ρ[f b]? = some o → ρ'[b]? = some o) : ∀ (p : AV) (v : Value), AV.relV X w ρ (p.ren f) v → AV.relV X w ρ' p v
  | .any, v, h => by simp only [AV.relV]
  | .arr n k l, v, h => by simpa only [AV.ren, AV.relV] using h
  | .agg ps, v, h => by
    simp only [AV.ren, AV.relV] at h; obtain ⟨cs, h1, h2⟩ := h
    simp only [AV.relV]; exact ⟨cs, h1, relL_ren hf ps _ h2⟩
  | .tup ps, v, h => by
    simp only [AV.ren, AV.relV] at h; obtain ⟨cs, h1, h2⟩ := h
    simp only [AV.relV]; exact ⟨cs, h1, relVs_ren hf ps _ h2⟩
  | .v x, v, h => by simpa only [AV.ren, AV.relV, AV.rel] using h
  | .ptr b base i, v, h => by simp only [AV.ren, AV.relV] at h; simp only [AV.relV]; exact rel_ren hf (.ptr b base i) _ h
  | .sl b base sz off len cap, v, h => by simp only [AV.ren, AV.relV] at h; simp only [AV.relV]; exact rel_ren hf (.sl b base sz off len cap) _ h
  | .roI k l, v, h => by simpa only [AV.ren, AV.relV, AV.rel] using h
  | .roL sz es, v, h => by simpa only [AV.ren, AV.relV, AV.rel] using h
  | .rop x, v, h => by simpa only [AV.ren, AV.relV, AV.rel] using h
  | .lst sz es, v, h => by simpa only [AV.ren, AV.relV, AV.rel] using h
  | .fn g a b, v, h => by simp only [AV.ren, AV.relV] at h; simp only [AV.relV]; exact rel_ren hf (.fn g a b) _ (by simpa only [AV.ren] using h)
theorem relVs_ren (hf : ∀ (b : Nat) o, ρ[f b]? = some o → ρ'[b]? = some o) : ∀ (ps : List AV) (cs : List Value), relVs X w ρ (renL f ps) cs → relVs X w ρ' ps cs
  | [], cs, h => by simpa only [renL, relVs] using h
  | p :: ps, cs, h => by
    simp only [renL, relVs] at h
    obtain ⟨a, b, h0, h1, h2⟩ := h
    simp only [relVs]
    exact ⟨a, b, h0, relV_ren hf p a h1, relVs_ren hf ps b h2⟩
end
end

def envOf (args : List AV) : Env := fun i => args.getD i .any
theorem get_envOf (args : List AV) (i : Nat) : get (envOf args) i = args.getD i .any := rfl

def resOne (P : Program) (σ : St) : ResultVar → Option AV
  | .tmp t => some (get σ.e t)
  | .cell a ty => loadA P σ.h ty (get σ.e a)

def resList (P : Program) (σ : St) : List ResultVar → Option (List AV)
  | [] => some []
  | r :: rs => (resOne P σ r).bind fun v => (resList P σ rs).map fun vs => v :: vs

def packA : List AV → AV
  | [v] => v
  | vs => .tup vs

def retK (P : Program) (fn : Func) (κ : AV → List Blk → Prop) : Exit → St → Prop
  | .normal, σ => holds (resList P σ fn.results.toList) fun vs => κ (packA vs) σ.h
  | .ret, σ => holds (resList P σ fn.results.toList) fun vs => κ (packA vs) σ.h
  | _, _ => False

section
variable {C : Cfg} {E : Nat → Prop} {w0 : World} {F : Nat → Prop} {n : Nat} {r0 : List (Option Nat)}

def resVar (tmps : Array Value) : ResultVar → Sem Value
  | .tmp t => pure (tmps.getD t undef)
  | .cell a t => do loadVar t (← asAddr (tmps.getD a undef))

theorem resOne_ok {X : Nat → Prop} {ρ : List (Option Nat)} {σ : St} {tmps : Array Value} {w : World} (ht : ∀ i, AV.relV X w ρ (get σ.e i) (tmps.getD i undef)) (hh : HRel X ρ σ.h w) {r : ResultVar} {v : AV}
    (h : resOne C.P σ r = some v) : ∃ z, (resVar tmps r).run C.P w = .ok z w ∧ AV.relV X w ρ v z := by
  cases r with
  | tmp t => cases h; exact ⟨_, rfl, ht t⟩
  | cell a ty =>
    simp only [resOne] at h
    obtain ⟨z, h1, h2⟩ := loadA_ok hh (ht a) h
    refine ⟨z, ?_, h2⟩
    have hp : ∃ p, tmps.getD a undef = .pointer (some p) := by
      have h3 := ht a
      unfold loadA at h
      split at h
      · unfold loadCell at h
        split at h
        · rename_i heq; rw [heq] at h3; simp only [AV.relV, AV.rel] at h3; obtain ⟨r, _, h3⟩ := h3; injection h3 with h3 _; exact ⟨_, h3⟩
        · rename_i heq; rw [heq] at h3; simp only [AV.relV, AV.rel] at h3; obtain ⟨r, _, h3, _⟩ := h3; injection h3 with h3 _; exact ⟨_, h3⟩
        · cases h
      · unfold loadAgg at h
        split at h
        · rename_i heq; rw [heq] at h3; simp only [AV.relV, AV.rel] at h3; obtain ⟨r, _, h3⟩ := h3; injection h3 with h3 _; exact ⟨_, h3⟩
        · rename_i heq; rw [heq] at h3; simp only [AV.relV, AV.rel] at h3; obtain ⟨r, _, h3, _⟩ := h3; injection h3 with h3 _; exact ⟨_, h3⟩
        · cases h
      · cases h
    obtain ⟨p, hp⟩ := hp
    rw [hp] at h1
    simp only [resVar, hp]
    simpa [Instr.loadAt, Instr.sureAddr, asAddr] using h1

theorem resList_ok {X : Nat → Prop} {ρ : List (Option Nat)} {σ : St} {tmps : Array Value} {w : World} (ht : ∀ i, AV.relV X w ρ (get σ.e i) (tmps.getD i undef)) (hh : HRel X ρ σ.h w) :
    ∀ (rs : List ResultVar) (vs : List AV), resList C.P σ rs = some vs →
    ∃ zs, (rs.mapM (resVar tmps)).run C.P w = .ok zs w ∧ relVs X w ρ vs zs
  | [], vs, h => by cases h; exact ⟨[], rfl, by simp [relVs]⟩
  | r :: rs, vs, h => by
    simp only [resList] at h
    obtain ⟨v, hv, h⟩ := Option.bind_eq_some_iff.1 h
    obtain ⟨us, hu, rfl⟩ := Option.map_eq_some_iff.1 h
    obtain ⟨z, h1, h2⟩ := resOne_ok ht hh hv
    obtain ⟨zs, h3, h4⟩ := resList_ok ht hh rs us hu
    refine ⟨z :: zs, ?_, by simp only [relVs]; exact ⟨z, zs, rfl, h2, h4⟩⟩
    simp only [List.mapM_cons, Sem.run_bind, h1, h3, Result.andThen_ok, Sem.run_pure]

theorem relVs_getD {X : Nat → Prop} {w : World} {ρ : List (Option Nat)} : ∀ {ps : List AV} {vs : List Value} (i : Nat), relVs X w ρ ps vs → AV.relV X w ρ (ps.getD i .any) (vs.getD i undef)
  | [], vs, i, h => by simp [AV.relV]
  | p :: ps, vs, i, h => by
    simp only [relVs] at h
    obtain ⟨a, b, rfl, h1, h2⟩ := h
    cases i with
    | zero => simpa using h1
    | succ i => simpa using relVs_getD i h2

theorem relVs_len {X : Nat → Prop} {w : World} {ρ : List (Option Nat)} : ∀ {ps : List AV} {vs : List Value}, relVs X w ρ ps vs → vs.length = ps.length
  | [], vs, h => by simp only [relVs] at h; simp [h]
  | p :: ps, vs, h => by
    simp only [relVs] at h
    obtain ⟨a, b, rfl, h1, h2⟩ := h
    simp [relVs_len h2]

theorem acall_body (hC : C.Good) {f : FuncId} {fn : Func} {c : Code} {args : List AV} {h : List Blk} {κ : AV → List Blk → Prop} (hf : C.P.funcs[f]? = some fn) (hb : fn.body = some c)
    (hok : hasBody C.P f = true ∧ args.length ≤ fn.ntmps ∧ Code.dstOk fn.ntmps c = true ∧ drawOk C c = true) (hk : h.length = C.k)
    (hs : exec C c ⟨envOf args, h⟩ (retK C.P fn κ)) (hrd : C.rd = none) : ACall C.P f args h κ := by
  obtain ⟨hbody, hargs, hdst, hdraw⟩ := hok
  refine ⟨hbody, ?_⟩
  intro E w ρ vs hv hh hE
  have hlen : vs.size = args.length := by have := relVs_len hv; simpa using this
  have hrep : Rep E w (own ρ h) fn.ntmps ρ ρ ⟨envOf args, h⟩ { tmps := vs ++ Array.replicate (fn.ntmps - vs.size) undef, defers := [] } w := by
    refine ⟨?_, by simp; omega, Marks.none rfl, hh, Frame.refl, fun r hr => .inl hr, hE, fun _ _ h => h⟩
    intro i
    rw [get_envOf]
    rcases Nat.lt_or_ge i args.length with hi | hi
    · have := relVs_getD i hv
      have he : (vs ++ Array.replicate (fn.ntmps - vs.size) undef).getD i undef = vs.toList.getD i undef := by
        rw [Array.getD_eq_getD_getElem?, List.getD_eq_getElem?_getD, Array.getElem?_append_left (by omega), Array.getElem?_toList]
      rw [he]; exact this
    · rw [List.getD_eq_getElem?_getD, List.getElem?_eq_none hi]
      simp [AV.relV]
  have hw := exec_wp hC c _ _ hdraw hs E w (own ρ h) fn.ntmps ρ _ w (by rw [hh.len]; exact hk) hdst ⟨ρ, hrep⟩
  have hfe : C.fence = Fence.wide := by unfold Cfg.fence; rw [hrd]; rfl
  rw [hfe] at hw
  refine callsIn_wide.1 (callsIn_of_wp_marks (n := 0) hf hb trivial (wpIn_mono hw ?_))
  rintro ex a1 w1 ⟨σ', h1, ρ', hr1⟩
  have fin : holds (resList C.P σ' fn.results.toList) (fun vs => κ (packA vs) σ'.h) → LeavesInM Fence.wide 0 C.P fn a1.tmps (fun en w' => ∃ av v ρ' h', en = .returned v ∧ κ av h' ∧ AV.relV (XOf E ρ' h') w' ρ' av v ∧ HRel (XOf E ρ' h') ρ' h' w' ∧
      (∀ (b : Nat) o, ρ[b]? = some o → ρ'[b]? = some o) ∧ (∀ r, own ρ' h' r → own ρ h r ∨ w.heap.size ≤ r) ∧ Frame (own ρ h) w w') a1.defers .returning w1 := by
    rintro ⟨us, h2, h3⟩
    obtain ⟨Ds, hds, hnd, hmk⟩ := hr1.df
    rw [hds]
    refine leaves_marks Ds w1 hnd (fun D hD => (hmk D hD).2) ?_
    have hr' := Rep.shut Ds w1 a1 hr1 hnd hmk
    generalize shut w1 Ds = w' at hr'
    obtain ⟨a', ha'⟩ : ∃ a' : Act, a' = { a1 with defers := [] } := ⟨_, rfl⟩
    rw [← ha'] at hr'
    have hta : a1.tmps = a'.tmps := by rw [ha']
    rw [hta]
    show ∃ v, (results fn a'.tmps).run C.P w' = .ok v w' ∧
      ∃ av v1 ρ1 h1, Ending.returned v = .returned v1 ∧ κ av h1 ∧ AV.relV (XOf E ρ1 h1) w' ρ1 av v1 ∧ HRel (XOf E ρ1 h1) ρ1 h1 w' ∧
      (∀ (b : Nat) o, ρ[b]? = some o → ρ1[b]? = some o) ∧ (∀ r, own ρ1 h1 r → own ρ h r ∨ w.heap.size ≤ r) ∧ Frame (own ρ h) w w'
    obtain ⟨zs, h4, h5⟩ := resList_ok hr'.tm hr'.hp _ _ h2
    have hmap : (fn.results.mapM (resVar a'.tmps)).run C.P w' = .ok zs.toArray w' := by
      rw [← Array.toArray_toList (xs := fn.results), List.mapM_toArray]
      simp only [Sem.run_map, h4, Result.andThen_ok]
    refine ⟨if h : zs.toArray.size = 1 then zs.toArray[0] else .tuple zs.toArray, ?_, packA us, _, ρ', σ'.h, rfl, h3, ?_, hr'.hp, hr'.ex, hr'.ow, hr'.fr⟩
    · have hres : results fn a'.tmps = (do let vs ← fn.results.mapM (resVar a'.tmps); pure (if h : vs.size = 1 then vs[0] else .tuple vs)) := by
        unfold results
        congr 1
      rw [hres, Sem.run_bind, hmap]
      rfl
    · have hzl := relVs_len h5
      match us, zs, h5, hzl with
      | [u], [z], h5, _ =>
        obtain ⟨y, hy, h6⟩ := relVs_one h5
        cases hy
        simpa [packA] using h6
      | [], [], h5, _ => simp only [packA, AV.relV]; exact ⟨#[], by simp, by simp [relVs]⟩
      | u1 :: u2 :: us, z1 :: z2 :: zs, h5, _ => simp only [packA, AV.relV]; exact ⟨_, by simp, h5⟩
  cases ex <;> first
    | exact fin h1
    | exact h1.elim
end
end Go.Ax

namespace Go.Ax

def overwrite (h : List Blk) : List Nat → List Blk → List Blk
  | [], hr => h ++ hr
  | _ :: _, [] => h
  | p :: π, b :: hr => overwrite (h.set p b) π hr

def frameMap (π : List Nat) (n : Nat) (b : Nat) : Nat := if b < π.length then π.getD b 0 else n + (b - π.length)

theorem overwrite_len : ∀ (π : List Nat) (h hr : List Blk), π.length ≤ hr.length → (overwrite h π hr).length = h.length + (hr.length - π.length)
  | [], h, hr, _ => by simp [overwrite]
  | p :: π, h, [], hl => by simp at hl
  | p :: π, h, b :: hr, hl => by
    simp only [overwrite]
    rw [overwrite_len π _ hr (by simpa using hl)]
    simp

theorem overwrite_other : ∀ (π : List Nat) (h hr : List Blk) (i : Nat), π.length ≤ hr.length → i < h.length → i ∉ π → (overwrite h π hr)[i]? = h[i]?
  | [], h, hr, i, _, hi, _ => by simp [overwrite, List.getElem?_append_left hi]
  | p :: π, h, [], i, hl, _, _ => by simp at hl
  | p :: π, h, b :: hr, i, hl, hi, hn => by
    simp only [overwrite]
    simp at hn
    rw [overwrite_other π _ hr i (by simpa using hl) (by simpa using hi) hn.2]
    rw [List.getElem?_set_ne (fun h => hn.1 h.symm)]

theorem overwrite_at : ∀ (π : List Nat) (h hr : List Blk) (k : Nat), π.length ≤ hr.length → π.Nodup → (∀ p ∈ π, p < h.length) → k < π.length → (overwrite h π hr)[π.getD k 0]? = hr[k]?
  | [], h, hr, k, _, _, _, hk => by simp at hk
  | p :: π, h, [], k, hl, _, _, _ => by simp at hl
  | p :: π, h, b :: hr, k, hl, hn, hp, hk => by
    simp only [overwrite]
    have hn' := List.nodup_cons.1 hn
    cases k with
    | zero =>
      simp only [List.getD_cons_zero, List.getElem?_cons_zero]
      rw [overwrite_other π _ hr p (by simpa using hl) (by simpa using hp p (by simp)) hn'.1]
      rw [List.getElem?_set_self (hp p (by simp))]
    | succ k =>
      simp only [List.getD_cons_succ, List.getElem?_cons_succ]
      exact overwrite_at π _ hr k (by simpa using hl) hn'.2 (fun q hq => by simpa using hp q (by simp [hq])) (by simpa using hk)

theorem overwrite_new : ∀ (π : List Nat) (h hr : List Blk) (j : Nat), π.length ≤ hr.length → (overwrite h π hr)[h.length + j]? = hr[π.length + j]?
  | [], h, hr, j, _ => by simp [overwrite, List.getElem?_append_right]
  | p :: π, h, [], j, hl => by simp at hl
  | p :: π, h, b :: hr, j, hl => by
    simp only [overwrite]
    have := overwrite_new π (h.set p b) hr j (by simpa using hl)
    rw [List.length_set] at this
    rw [this, List.length_cons, show π.length + 1 + j = (π.length + j) + 1 from by omega, List.getElem?_cons_succ]

section
variable {P : Program}

theorem live_ren {f : Nat → Nat} {b : Blk} : (∃ ps, renB f b = some ps) ↔ ∃ ps, b = some ps := by
  cases b with
  | none => simp [renB]
  | some x => simp [renB]

theorem ACall.frame {f : FuncId} {argsC : List AV} {hc : List Blk} {R : AV → List Blk → Prop} (spec : ACall P f argsC hc R) {args : List AV} {h : List Blk} (π : List Nat) {κ : AV → List Blk → Prop}
    (hargs : args = renL (frameMap π h.length) argsC) (hlen : hc.length = π.length) (hπ : π.Nodup) (hlt : ∀ p ∈ π, p < h.length)
    (hblk : ∀ k, k < π.length → h[π.getD k 0]? = (hc[k]?).map (renB (frameMap π h.length)))
    (hκ : ∀ av h', R av h' → κ (av.ren (frameMap π h.length)) (overwrite h π (h'.map (renB (frameMap π h.length))))) : ACall P f args h κ := by
  refine ⟨spec.1, ?_⟩
  intro E w ρ vs hv hh hE
  let g := frameMap π h.length
  let ρc : List (Option Nat) := π.map fun p => ρ.getD p none
  have hlh := hh.len
  have hρc : ∀ k, k < π.length → ρc[k]? = ρ[π.getD k 0]? := by
    intro k hk
    have hp : π.getD k 0 < ρ.length := by
      rw [hlh]; refine hlt _ ?_
      rw [List.getD_eq_getElem?_getD, List.getElem?_eq_getElem hk]; simp
    simp only [ρc, List.getElem?_map, List.getElem?_eq_getElem hk, Option.map_some]
    rw [List.getElem?_eq_getElem hp]
    simp only [List.getD_eq_getElem?_getD, List.getElem?_eq_getElem hk, Option.getD_some] at hp ⊢
    simp [List.getElem?_eq_getElem hp]
  have hgk : ∀ k, k < π.length → g k = π.getD k 0 := by intro k hk; simp only [g, frameMap, if_pos hk]
  have hgn : ∀ k, π.length ≤ k → g k = h.length + (k - π.length) := by intro k hk; simp only [g, frameMap, if_neg (by omega : ¬ k < π.length)]
  have back : ∀ (b : Nat) o, ρ[g b]? = some o → ρc[b]? = some o := by
    intro b o hb
    rcases Nat.lt_or_ge b π.length with h1 | h1
    · rw [hρc b h1, ← hgk b h1]; exact hb
    · rw [hgn b h1] at hb
      have := (List.getElem?_eq_some_iff.1 hb).1
      omega
  have hlive : ∀ k, live hc k ↔ k < π.length ∧ live h (g k) := by
    intro k
    constructor
    · rintro ⟨ps, hp⟩
      have hk : k < π.length := by have := (List.getElem?_eq_some_iff.1 hp).1; omega
      refine ⟨hk, renL g ps, ?_⟩
      rw [hgk k hk, hblk k hk, hp]
      rfl
    · rintro ⟨hk, ps, hp⟩
      rw [hgk k hk, hblk k hk] at hp
      obtain ⟨b, hb, hp⟩ := Option.map_eq_some_iff.1 hp
      cases b with
      | none => simp [renB] at hp
      | some q => exact ⟨q, hb⟩
  have hown : ∀ r, own ρc hc r → own ρ h r := by
    rintro r ⟨k, hk, hl⟩
    obtain ⟨h1, h2⟩ := (hlive k).1 hl
    exact ⟨g k, by rw [hgk k h1, ← hρc k h1]; exact hk, h2⟩
  let Ec : Nat → Prop := fun r => E r ∨ (own ρ h r ∧ ¬ own ρc hc r)
  have hX : XOf Ec ρc hc = XOf E ρ h := by
    funext r
    apply propext
    unfold XOf
    constructor
    · rintro ((h1 | h1) | h1)
      · exact .inl h1
      · exact .inr h1.1
      · exact .inr (hown r h1)
    · rintro (h1 | h1)
      · exact .inl (.inl h1)
      · by_cases h2 : own ρc hc r
        · exact .inr h2
        · exact .inl (.inr ⟨h1, h2⟩)
  have hhc : HRel (XOf Ec ρc hc) ρc hc w := by
    rw [hX]
    refine ⟨by simp [ρc, hlen], ?_, ?_⟩
    · intro k ps hk
      have hkl : k < π.length := by have := (List.getElem?_eq_some_iff.1 hk).1; omega
      have h1 : h[π.getD k 0]? = some (some (renL g ps)) := by rw [hblk k hkl, hk]; rfl
      have h2 := hh.blk _ _ h1
      rw [hρc k hkl]
      unfold BRel at h2 ⊢
      split at h2
      · obtain ⟨c, e, fz, h3, h4, cs, post, h5, h6⟩ := h2
        exact ⟨c, e, fz, h3, h4, cs, post, h5, relL_ren back ps cs h6⟩
      · exact relL_ren back ps [] h2
      · exact h2.elim
    · intro k k' r h1 h2 l1 l2
      obtain ⟨a1, b1⟩ := (hlive k).1 l1
      obtain ⟨a2, b2⟩ := (hlive k').1 l2
      have := hh.inj (g k) (g k') r (by rw [hgk k a1, ← hρc k a1]; exact h1) (by rw [hgk k' a2, ← hρc k' a2]; exact h2) b1 b2
      rw [hgk k a1, hgk k' a2] at this
      simp only [List.getD_eq_getElem?_getD, List.getElem?_eq_getElem a1, List.getElem?_eq_getElem a2, Option.getD_some] at this
      have hpw := List.pairwise_iff_getElem.1 hπ
      rcases Nat.lt_trichotomy k k' with h3 | h3 | h3
      · exact absurd this (hpw k k' a1 a2 h3)
      · exact h3
      · exact absurd this.symm (hpw k' k a2 a1 h3)
  have hvc : relVs (XOf Ec ρc hc) w ρc argsC vs.toList := by
    rw [hX]; rw [hargs] at hv; exact relVs_ren back argsC _ hv
  have hEc : ∀ r, Ec r → r < w.heap.size ∧ ¬ own ρc hc r := by
    rintro r (h1 | h1)
    · exact ⟨(hE r h1).1, fun h2 => (hE r h1).2 (hown r h2)⟩
    · exact ⟨hh.own_lt h1.1, h1.2⟩
  refine (spec.2 Ec w ρc vs hvc hhc hEc).mono ?_
  rintro en w' ⟨av, v, ρ', h', rfl, hR, hav, hh', hext, how, hfr⟩
  have hl' : π.length ≤ ρ'.length := by
    rcases Nat.lt_or_ge ρ'.length π.length with h1 | h1
    · exfalso
      have h2 : ρc[ρ'.length]? = some (ρc[ρ'.length]'(by simp [ρc]; exact h1)) := by simp [ρc, h1]
      have h3 := hext _ _ h2
      simp at h3
    · exact h1
  have hl'' : π.length ≤ (h'.map (renB g)).length := by rw [List.length_map, ← hh'.len]; exact hl'
  let ρn : List (Option Nat) := ρ ++ ρ'.drop π.length
  let hn := overwrite h π (h'.map (renB g))
  have hfwd : ∀ (b : Nat) o, ρ'[b]? = some o → ρn[g b]? = some o := by
    intro b o hb
    rcases Nat.lt_or_ge b π.length with h1 | h1
    · have h2 : ρc[b]? = some (ρc[b]'(by simp [ρc]; exact h1)) := by simp [ρc, h1]
      have h3 := hext _ _ h2
      rw [hb] at h3
      rw [← h3, hρc b h1, ← hgk b h1] at h2
      have := (List.getElem?_eq_some_iff.1 h2).1
      simp only [ρn]
      rw [List.getElem?_append_left this]; exact h2
    · rw [hgn b h1]
      simp only [ρn]
      rw [List.getElem?_append_right (by omega), hlh, Nat.add_sub_cancel_left, List.getElem?_drop, show π.length + (b - π.length) = b from by omega]
      exact hb
  have hnlen : hn.length = h.length + (h'.length - π.length) := by
    simp only [hn]; rw [overwrite_len _ _ _ hl'', List.length_map]
  -- where the new heap's blocks come from
  have hsrc : ∀ (b : Nat) (ps : List AV), hn[b]? = some (some ps) → (b < h.length ∧ b ∉ π ∧ h[b]? = some (some ps)) ∨ (∃ k qs, b = g k ∧ h'[k]? = some (some qs) ∧ ps = renL g qs) := by
    intro b ps hb
    rcases Nat.lt_or_ge b h.length with h1 | h1
    · by_cases hp : b ∈ π
      · right
        obtain ⟨k, hk, rfl⟩ := List.getElem_of_mem hp
        have hk2 : π.getD k 0 = π[k] := by simp [List.getD_eq_getElem?_getD, hk]
        have := overwrite_at π h (h'.map (renB g)) k hl'' hπ hlt hk
        rw [hk2] at this
        rw [this, List.getElem?_map] at hb
        obtain ⟨q, hq, hb⟩ := Option.map_eq_some_iff.1 hb
        cases q with
        | none => simp [renB] at hb
        | some qs => exact ⟨k, qs, by rw [hgk k hk, hk2], hq, by simp [renB] at hb; exact hb.symm⟩
      · left
        exact ⟨h1, hp, by rw [← hb]; exact (overwrite_other π h _ b hl'' h1 hp).symm⟩
    · right
      have := overwrite_new π h (h'.map (renB g)) (b - h.length) hl''
      rw [show h.length + (b - h.length) = b from by omega] at this
      rw [this, List.getElem?_map] at hb
      obtain ⟨q, hq, hb⟩ := Option.map_eq_some_iff.1 hb
      cases q with
      | none => simp [renB] at hb
      | some qs => exact ⟨π.length + (b - h.length), qs, by rw [hgn _ (by omega)]; omega, hq, by simp [renB] at hb; exact hb.symm⟩
  have holdr : ∀ b, b < h.length → ρn[b]? = ρ[b]? := by
    intro b hb; simp only [ρn]; rw [List.getElem?_append_left (by omega)]
  have hkr : ∀ (k : Nat) (qs : List AV), h'[k]? = some (some qs) → ∃ o, ρ'[k]? = some o := by
    intro k qs hk
    have := (List.getElem?_eq_some_iff.1 hk).1
    exact ⟨ρ'[k]'(by rw [hh'.len]; exact this), by simp⟩
  have hownn : ∀ r, own ρn hn r → (∃ b, b < h.length ∧ b ∉ π ∧ ρ[b]? = some (some r) ∧ live h b) ∨ own ρ' h' r := by
    rintro r ⟨b, hb, ps, hp⟩
    rcases hsrc b ps hp with ⟨h1, h2, h3⟩ | ⟨k, qs, rfl, hk, _⟩
    · left; exact ⟨b, h1, h2, by rw [← holdr b h1]; exact hb, ps, h3⟩
    · right
      obtain ⟨o, ho⟩ := hkr k qs hk
      have := hfwd k o ho
      rw [hb] at this
      cases this
      exact ⟨k, ho, qs, hk⟩
  have hnotc : ∀ (r b : Nat), b ∉ π → ρ[b]? = some (some r) → live h b → ¬ own ρc hc r := by
    rintro r b hbp hb hl ⟨k, hk, hkl⟩
    obtain ⟨h1, h2⟩ := (hlive k).1 hkl
    rw [hρc k h1, ← hgk k h1] at hk
    have := hh.inj b (g k) r hb hk hl h2
    rw [this, hgk k h1] at hbp
    exact hbp (by rw [List.getD_eq_getElem?_getD, List.getElem?_eq_getElem h1]; simp)
  have hXn : ∀ r, XOf E ρn hn r → XOf Ec ρ' h' r := by
    rintro r (h1 | h1)
    · exact .inl (.inl h1)
    · rcases hownn r h1 with ⟨b, h2, h3, h4, h5⟩ | h2
      · exact .inl (.inr ⟨⟨b, h4, h5⟩, hnotc r b h3 h4 h5⟩)
      · exact .inr h2
  have hXold : ∀ r, r < w.heap.size → XOf E ρn hn r → XOf E ρ h r := by
    rintro r hlt2 (h1 | h1)
    · exact .inl h1
    · rcases hownn r h1 with ⟨b, h2, h3, h4, h5⟩ | h2
      · exact .inr ⟨b, h4, h5⟩
      · rcases how r h2 with h3 | h3
        · exact .inr (hown r h3)
        · omega
  have hkeep : Keep (XOf E ρ h) w w' := (hfr.mono (fun r h1 => Or.inr (hown r h1))).keep
  refine ⟨av.ren g, v, ρn, hn, rfl, hκ av h' hR, ?_, ?_, ?_, ?_, hfr.mono hown⟩
  · exact renV_rel hfwd av v (relV_keep Keep.refl (fun r _ h1 => hXn r h1) av ρ' ρ' v (fun _ _ h1 => h1) hav)
  · refine ⟨?_, ?_, ?_⟩
    · rw [hnlen]; simp only [ρn, List.length_append, List.length_drop, hlh, hh'.len]
    · intro b ps hb
      rcases hsrc b ps hb with ⟨h1, h2, h3⟩ | ⟨k, qs, rfl, hk, rfl⟩
      · rw [holdr b h1]
        refine (hh.blk b ps h3).keep hkeep hXold (fun b' o hb' => ?_) ?_
        · simp only [ρn]; rw [List.getElem?_append_left (List.getElem?_eq_some_iff.1 hb').1]; exact hb'
        · intro r hr
          refine hfr.same r (hh.own_lt ⟨b, hr, ps, h3⟩) (hnotc r b h2 hr ⟨ps, h3⟩)
      · obtain ⟨o, ho⟩ := hkr k qs hk
        have h1 := hh'.blk k qs hk
        rw [hfwd k o ho]
        rw [ho] at h1
        have h2 := h1.keep (w' := w') (ρ' := ρ') Keep.refl (fun r _ h1 => hXn r h1) (fun _ _ h1 => h1) (fun _ _ => rfl)
        unfold BRel at h2 ⊢
        cases o with
        | none => exact renL_rel hfwd qs [] h2
        | some r =>
          obtain ⟨c, e, fz, h3, h4, cs, post, h5, h6⟩ := h2
          exact ⟨c, e, fz, h3, h4, cs, post, h5, renL_rel hfwd qs cs h6⟩
    · intro b1 b2 r h1 h2 l1 l2
      obtain ⟨p1, hp1⟩ := l1
      obtain ⟨p2, hp2⟩ := l2
      have hnew : ∀ (k : Nat) (qs : List AV), h'[k]? = some (some qs) → ρn[g k]? = some (some r) → ρ'[k]? = some (some r) := by
        intro k qs hk hr
        obtain ⟨o, ho⟩ := hkr k qs hk
        have := hfwd k o ho
        rw [hr] at this
        cases this
        exact ho
      have hmix : ∀ (b : Nat) (ps : List AV) (k : Nat) (qs : List AV), b < h.length → b ∉ π → h[b]? = some (some ps) → ρn[b]? = some (some r) → h'[k]? = some (some qs) → ρn[g k]? = some (some r) → False := by
        intro b ps k qs hb hbp hps hr hk hkr2
        rw [holdr b hb] at hr
        have h3 := hnew k qs hk hkr2
        rcases how r ⟨k, h3, qs, hk⟩ with h4 | h4
        · exact hnotc r b hbp hr ⟨ps, hps⟩ h4
        · have := hh.own_lt ⟨b, hr, ps, hps⟩; omega
      rcases hsrc b1 p1 hp1 with ⟨a1, a2, a3⟩ | ⟨k1, q1, rfl, hk1, _⟩ <;> rcases hsrc b2 p2 hp2 with ⟨c1, c2, c3⟩ | ⟨k2, q2, rfl, hk2, _⟩
      · rw [holdr b1 a1] at h1
        rw [holdr b2 c1] at h2
        exact hh.inj b1 b2 r h1 h2 ⟨p1, a3⟩ ⟨p2, c3⟩
      · exact (hmix b1 p1 k2 q2 a1 a2 a3 h1 hk2 h2).elim
      · exact (hmix b2 p2 k1 q1 c1 c2 c3 h2 hk1 h1).elim
      · rw [hh'.inj k1 k2 r (hnew k1 q1 hk1 h1) (hnew k2 q2 hk2 h2) ⟨q1, hk1⟩ ⟨q2, hk2⟩]
  · intro b o hb
    simp only [ρn]; rw [List.getElem?_append_left (List.getElem?_eq_some_iff.1 hb).1]; exact hb
  · intro r hr
    rcases hownn r hr with ⟨b, h2, h3, h4, h5⟩ | h2
    · exact .inl ⟨b, h4, h5⟩
    · rcases how r h2 with h3 | h3
      · exact .inl (hown r h3)
      · exact .inr h3
end
end Go.Ax

namespace Go.Ax

def envL (L : List (Nat × AV)) : Env := fun i => match L with
  | [] => .any
  | (j, v) :: r => if j = i then v else envL r i

theorem get_envL_nil (i : Nat) : get (envL []) i = .any := rfl
theorem get_envL_cons (j : Nat) (v : AV) (L : List (Nat × AV)) (i : Nat) : get (envL ((j, v) :: L)) i = if j = i then v else get (envL L) i := rfl

theorem get_envL_mem : ∀ (L : List (Nat × AV)) (i : Nat), get (envL L) i = .any ∨ (i, get (envL L) i) ∈ L
  | [], i => .inl rfl
  | (j, v) :: L, i => by
    rw [get_envL_cons]
    by_cases h : j = i
    · subst h; simp
    · rw [if_neg h]
      exact (get_envL_mem L i).imp id (fun h => by simp [h])

def Weak (C : Cfg) (σ σ' : St) : Prop :=
  ∀ (E : Nat → Prop) (w0 : World) (F : Nat → Prop) (n : Nat) (r0 : List (Option Nat)) (a : Act) (w : World), r0.length = C.k → Ok E w0 F n r0 σ a w → Ok E w0 F n r0 σ' a w

theorem Weak.refl (C : Cfg) (σ : St) : Weak C σ σ := fun _ _ _ _ _ _ _ _ h => h
theorem Weak.trans {C : Cfg} {a b c : St} (h : Weak C a b) (k : Weak C b c) : Weak C a c := fun E w0 F n r0 x w hk hr => k E w0 F n r0 x w hk (h E w0 F n r0 x w hk hr)

theorem weak_env {C : Cfg} {e : Env} {h : List Blk} {L : List (Nat × AV)} (hL : ∀ p ∈ L, get e p.1 = p.2) : Weak C ⟨e, h⟩ ⟨envL L, h⟩ := by
  rintro E w0 F n r0 a w _ ⟨ρ, hr⟩
  refine ⟨ρ, ⟨fun i => ?_, hr.sz, hr.df, hr.hp, hr.fr, hr.ow, hr.el, hr.ex⟩⟩
  rcases get_envL_mem L i with h1 | h1
  · simp only [h1, AV.relV]
  · have := hL _ h1
    simp only at this
    rw [← this]
    exact hr.tm i

theorem weak_gc {C : Cfg} {e : Env} {h h' : List Blk} {L : List (Nat × AV)} (B : List Nat) (hn : B.Nodup) (hlt : ∀ b ∈ B, b < h.length) (hlen : h'.length = B.length)
    (hk : C.k ≤ B.length ∧ ∀ i, i < C.k → B.getD i 0 = i)
    (hb : ∀ i, i < B.length → h'[i]? = some none ∨ h[B.getD i 0]? = (h'[i]?).map (renB fun b => B.getD b h.length))
    (hL : ∀ p ∈ L, get e p.1 = p.2.ren fun b => B.getD b h.length) : Weak C ⟨e, h⟩ ⟨envL L, h'⟩ := by
  rintro E w0 F n r0 a w hr0 ⟨ρ, hr⟩
  let f : Nat → Nat := fun b => B.getD b h.length
  let ρ' : List (Option Nat) := B.map fun p => ρ.getD p none
  have hlh := hr.hp.len
  simp only at hlh
  have hρ' : ∀ k, k < B.length → ρ'[k]? = ρ[f k]? := by
    intro k hk
    have hp : B[k] < ρ.length := by rw [hlh]; exact hlt _ (List.getElem_mem hk)
    simp only [ρ', List.getElem?_map, List.getElem?_eq_getElem hk, Option.map_some, f, List.getD_eq_getElem?_getD, Option.getD_some, List.getElem?_eq_getElem hp]
  have hfB : ∀ k, k < B.length → f k = B.getD k 0 := by
    intro k hk; simp only [f, List.getD_eq_getElem?_getD, List.getElem?_eq_getElem hk, Option.getD_some]
  have back : ∀ (b : Nat) o, ρ[f b]? = some o → ρ'[b]? = some o := by
    intro b o hb
    rcases Nat.lt_or_ge b B.length with h1 | h1
    · rw [hρ' b h1]; exact hb
    · have : f b = h.length := by simp only [f, List.getD_eq_getElem?_getD, List.getElem?_eq_none h1, Option.getD_none]
      rw [this, List.getElem?_eq_none (by omega)] at hb
      cases hb
  have hlive : ∀ k, live h' k → k < B.length ∧ live h (f k) ∧ ∀ ps, h'[k]? = some (some ps) → h[f k]? = some (some (renL f ps)) := by
    rintro k ⟨ps, hp⟩
    have hkl : k < B.length := by have := (List.getElem?_eq_some_iff.1 hp).1; omega
    have h2 : ∀ ps, h'[k]? = some (some ps) → h[f k]? = some (some (renL f ps)) := by
      intro ps hp
      rcases hb k hkl with h1 | h1
      · rw [hp] at h1; cases h1
      · rw [hfB k hkl, h1, hp]; rfl
    exact ⟨hkl, ⟨_, h2 ps hp⟩, h2⟩
  have hown : ∀ r, own ρ' h' r → own ρ h r := by
    rintro r ⟨k, hk, hl⟩
    obtain ⟨h1, h2, _⟩ := hlive k hl
    exact ⟨f k, by rw [← hρ' k h1]; exact hk, h2⟩
  have hX : ∀ r, r < w.heap.size → XOf E ρ' h' r → XOf E ρ h r := fun r _ h1 => h1.imp id (hown r)
  refine ⟨ρ', ⟨fun i => ?_, hr.sz, hr.df, ?_, hr.fr, fun r h1 => hr.ow r (hown r h1), fun r h1 => ⟨(hr.el r h1).1, fun h2 => (hr.el r h1).2 (hown r h2)⟩, ?_⟩⟩
  · rcases get_envL_mem L i with h1 | h1
    · simp only [h1, AV.relV]
    · have h2 := hL _ h1
      simp only at h2
      have h3 := hr.tm i
      simp only at h3
      rw [h2] at h3
      exact relV_keep Keep.refl hX _ ρ' ρ' _ (fun _ _ h => h) (relV_ren back _ _ h3)
  · refine ⟨by simp only [ρ', List.length_map, hlen], ?_, ?_⟩
    · intro k ps hk
      obtain ⟨h1, _, h2⟩ := hlive k ⟨ps, hk⟩
      have h3 := hr.hp.blk _ _ (h2 ps hk)
      rw [hρ' k h1]
      have h4 := h3.keep Keep.refl hX (fun _ _ h => h) (fun _ _ => rfl)
      unfold BRel at h4 ⊢
      split at h4
      · obtain ⟨c, e, fz, h5, h6, cs, post, h7, h8⟩ := h4
        exact ⟨c, e, fz, h5, h6, cs, post, h7, relL_ren back ps cs h8⟩
      · exact relL_ren back ps [] h4
      · exact h4.elim
    · intro k k' r h1 h2 l1 l2
      obtain ⟨a1, b1, _⟩ := hlive k l1
      obtain ⟨a2, b2, _⟩ := hlive k' l2
      have := hr.hp.inj (f k) (f k') r (by rw [← hρ' k a1]; exact h1) (by rw [← hρ' k' a2]; exact h2) b1 b2
      rw [hfB k a1, hfB k' a2] at this
      simp only [List.getD_eq_getElem?_getD, List.getElem?_eq_getElem a1, List.getElem?_eq_getElem a2, Option.getD_some] at this
      have hpw := List.pairwise_iff_getElem.1 hn
      rcases Nat.lt_trichotomy k k' with h3 | h3 | h3
      · exact absurd this (hpw k k' a1 a2 h3)
      · exact h3
      · exact absurd this.symm (hpw k' k a2 a1 h3)
  · intro b o hb0
    have hbl : b < C.k := by have := (List.getElem?_eq_some_iff.1 hb0).1; omega
    have h1 := hr.ex b o hb0
    rw [hρ' b (by omega), hfB b (by omega), hk.2 b hbl]
    exact h1

section
variable {C : Cfg}

theorem AWP.weak {c : Code} {κ : Exit → St → Prop} {σ σ' : St} (h : AWP C c κ σ') (hw : Weak C σ σ') : AWP C c κ σ :=
  fun E w0 F n r0 a w hk hd hr => h E w0 F n r0 a w hk hd (hw E w0 F n r0 a w hk hr)

theorem AWP.loop (hC : C.Good) {b : Code} {κ : Exit → St → Prop} {σ : St} {α : Type} (S : α → St) (m : α → Nat) (x0 : α) (hb : drawOk C b = true) (h0 : Weak C σ (S x0))
    (round : ∀ x, exec C b (S x) (thenK (fun σ' => ∃ y, m y < m x ∧ Weak C σ' (S y)) κ)) : AWP C (.loop b) κ σ := by
  intro E w0 F n r0 a w hk hd hr
  intro fr k cs hro hb0 hroom
  have key : ∀ (j : Nat) (x : α) (a : Act) (w : World), m x = j → Ok E w0 F n r0 (S x) a w →
      ∃ e a' w', (∃ σ', κ e σ' ∧ Ok E w0 F n r0 σ' a' w') ∧ ArrivesIn (Machine.fenced C.P C.fence) C.P (lone (fr.atR a (.code b :: .inLoop b :: k)) cs w) fr k cs e a' w' := by
    intro j
    induction j using Nat.strongRecOn with
    | _ j ih =>
      intro x a w hj hr
      obtain ⟨e, a₁, w₁, ⟨σ', hq, hr'⟩, harr⟩ := exec_wp hC b _ _ hb (round x) E w0 F n r0 a w hk (by simpa [Code.dstOk] using hd) hr fr (.inLoop b :: k) cs hro hb0 hroom
      cases e with
      | normal =>
        obtain ⟨y, hlt, hw⟩ := hq
        obtain ⟨e₂, a₂, w₂, hq₂, harr₂⟩ := ih (m y) (hj ▸ hlt) y a₁ w₁ rfl (hw E w0 F n r0 a₁ w₁ hk hr')
        exact ⟨e₂, a₂, w₂, hq₂, .of_steps (StepsIn.trans harr (.one (fenced_calm hb0 hroom rfl) stepR_inLoop)) harr₂⟩
      | exit id => exact ⟨_, a₁, w₁, ⟨σ', hq, hr'⟩, .pass (x := .inLoop b) rfl (fun _ _ => .inl (by simp)) harr⟩
      | goto l => exact ⟨_, a₁, w₁, ⟨σ', hq, hr'⟩, .pass (x := .inLoop b) rfl (fun _ _ => .inl (by simp)) harr⟩
      | ret => exact ⟨_, a₁, w₁, ⟨σ', hq, hr'⟩, .pass (x := .inLoop b) rfl (fun _ _ => .inl (by simp)) harr⟩
      | panic ch => exact ⟨_, a₁, w₁, ⟨σ', hq, hr'⟩, .pass (x := .inLoop b) rfl (fun _ _ => .inl (by simp)) harr⟩
      | outgrown => exact ⟨_, a₁, w₁, ⟨σ', hq, hr'⟩, .pass (x := .inLoop b) rfl (fun _ _ => .inl (by simp)) harr⟩
  obtain ⟨e, a', w', hq, harr⟩ := key _ x0 a w rfl (h0 E w0 F n r0 a w hk hr)
  exact ⟨e, a', w', hq, .of_steps (.one (fenced_calm hb0 hroom rfl) stepR_loop) harr⟩
end
end Go.Ax

namespace Go.Ax

inductive KI where
  | code (c : Code)
  | blk (id : Nat)
  | plan (ops : Array Oper) (p : Plan)

def contK (C : Cfg) : List KI → (Exit → St → Prop) → Exit → St → Prop
  | [], Q => Q
  | .code c :: k, Q => thenK (fun σ => exec C c σ (contK C k Q)) (contK C k Q)
  | .blk id :: k, Q => blockK id (contK C k Q)
  | .plan ops p :: k, Q => thenK (fun σ => goPlan C ops (contK C k Q .normal) p σ) (contK C k Q)

def run (C : Cfg) (c : Code) (k : List KI) (σ : St) (Q : Exit → St → Prop) : Prop := exec C c σ (contK C k Q)
def cont (C : Cfg) (ex : Exit) (k : List KI) (σ : St) (Q : Exit → St → Prop) : Prop := contK C k Q ex σ
def loopR (C : Cfg) (b : Code) (k : List KI) (σ : St) (Q : Exit → St → Prop) : Prop := AWP C (.loop b) (contK C k Q) σ
def oddR (C : Cfg) (id : Nat) (ops : Array Oper) (dr : Bool) (k : List KI) (σ : St) (Q : Exit → St → Prop) : Prop := AWP C (.region id ops dr) (contK C k Q) σ
def planR (C : Cfg) (ops : Array Oper) (p : Plan) (k : List KI) (σ : St) (Q : Exit → St → Prop) : Prop := goPlan C ops (contK C k Q .normal) p σ
def someR (C : Cfg) (ops : Array Oper) (x : Option Oper) (p : Plan) (k : List KI) (σ : St) (Q : Exit → St → Prop) : Prop :=
  match x with
  | some o => execOps C ops [o] σ (contK C (.plan ops p :: k) Q .normal)
  | none => False
def regionR (C : Cfg) (o : Bool) (id : Nat) (ops : Array Oper) (dr : Bool) (k : List KI) (σ : St) (Q : Exit → St → Prop) : Prop :=
  match o with
  | true => oddR C id ops dr k σ Q
  | false => execOps C ops ops.toList σ (contK C k Q .normal)
def condR (C : Cfg) (c : AV) (x y : Code) (k : List KI) (σ : St) (Q : Exit → St → Prop) : Prop := condK c (run C x k σ Q) (run C y k σ Q)
def opsR (C : Cfg) (all : Array Oper) (l : List Oper) (k : List KI) (σ : St) (Q : Exit → St → Prop) : Prop := execOps C all l σ (contK C k Q .normal)
def stepV (C : Cfg) (o : Oper) (all : Array Oper) (l : List Oper) (k : List KI) (σ : St) (Q : Exit → St → Prop) : Prop := step1 C o σ fun σ' => opsR C all l k σ' Q
def valR (C : Cfg) (x : Option AV) (d : Option Tmp) (all : Array Oper) (l : List Oper) (k : List KI) (e : Env) (h : List Blk) (Q : Exit → St → Prop) : Prop :=
  holds x fun v => opsR C all l k ⟨put e d v, h⟩ Q
def outR (C : Cfg) (x : Option Out) (d : Option Tmp) (all : Array Oper) (l : List Oper) (k : List KI) (e : Env) (Q : Exit → St → Prop) : Prop :=
  holds x fun out => out.all fun v h' => opsR C all l k ⟨put e d v, h'⟩ Q
def nilR (C : Cfg) (x : Option (Nat × Bool)) (d : Option Tmp) (all : Array Oper) (l : List Oper) (k : List KI) (e : Env) (h : List Blk) (Q : Exit → St → Prop) : Prop :=
  holds x fun (n, q) => ∀ t : Bool, (t = q → n = 0) → opsR C all l k ⟨put e d (.v (.bool t)), h⟩ Q
def callA (C : Cfg) (x : Option (FuncId × List AV)) (d : Option Tmp) (all : Array Oper) (l : List Oper) (k : List KI) (e : Env) (h : List Blk) (Q : Exit → St → Prop) : Prop :=
  holds x fun (f, args) => callStep C f args h fun v h' => opsR C all l k ⟨put e d v, h'⟩ Q
def callB (C : Cfg) (p : Option (List AV → Option AV)) (f : FuncId) (args : List AV) (d : Option Tmp) (all : Array Oper) (l : List Oper) (k : List KI) (e : Env) (h : List Blk) (Q : Exit → St → Prop) : Prop :=
  match p with
  | some F => valR C (F args) d all l k e h Q
  | none => match C.news f with
    | some N => holds (N h args) fun out => out.all fun v h' => opsR C all l k ⟨put e d v, h'⟩ Q
    | none => ACall C.P f args h fun v h' => opsR C all l k ⟨put e d v, h'⟩ Q
def callN (C : Cfg) (p : Option (List Blk → List AV → Option Out)) (f : FuncId) (args : List AV) (d : Option Tmp) (all : Array Oper) (l : List Oper) (k : List KI) (e : Env) (h : List Blk) (Q : Exit → St → Prop) : Prop :=
  match p with
  | some N => outR C (N h args) d all l k e Q
  | none => ACall C.P f args h fun v h' => opsR C all l k ⟨put e d v, h'⟩ Q
def callC (C : Cfg) (f : FuncId) (args : List AV) (d : Option Tmp) (all : Array Oper) (l : List Oper) (k : List KI) (e : Env) (h : List Blk) (Q : Exit → St → Prop) : Prop :=
  ACall C.P f args h fun v h' => opsR C all l k ⟨put e d v, h'⟩ Q
def wantR (C : Cfg) (g : AV) (want : Bool) (o : Oper) (all : Array Oper) (l : List Oper) (k : List KI) (σ : St) (Q : Exit → St → Prop) : Prop :=
  match g with
  | .v (.bool b) => if b = want then stepV C o all l k σ Q else opsR C all l k ⟨put σ.e o.dst (.tup []), σ.h⟩ Q
  | .tup [] => opsR C all l k ⟨put σ.e o.dst (.tup []), σ.h⟩ Q
  | _ => False

section
variable {C : Cfg} {k : List KI} {σ : St} {Q : Exit → St → Prop} {all : Array Oper} {l : List Oper} {e : Env} {h : List Blk} {d : Option Tmp}

theorem run_skip : run C .skip k σ Q = cont C .normal k σ Q := rfl
theorem run_seq (a b : Code) : run C (.seq a b) k σ Q = run C a (.code b :: k) σ Q := rfl
theorem run_block (id : Nat) (b : Code) : run C (.block id b) k σ Q = run C b (.blk id :: k) σ Q := rfl
theorem run_exit (id : Nat) : run C (.exit id) k σ Q = cont C (.exit id) k σ Q := rfl
theorem run_ret : run C .ret k σ Q = cont C .ret k σ Q := rfl
theorem run_loop (b : Code) : run C (.loop b) k σ Q = loopR C b k σ Q := rfl
theorem run_cond (c : Operand) (x y : Code) : run C (.cond c x y) k σ Q = condR C (ev σ.e c) x y k σ Q := rfl
theorem run_region (id : Nat) (ops : Array Oper) (dr : Bool) : run C (.region id ops dr) k σ Q = regionR C (C.odd.contains id) id ops dr k σ Q := by
  unfold run exec regionR
  cases C.odd.contains id <;> rfl
theorem regionR_true (id : Nat) (ops : Array Oper) (dr : Bool) : regionR C true id ops dr k σ Q = oddR C id ops dr k σ Q := rfl
theorem regionR_false (id : Nat) (ops : Array Oper) (dr : Bool) : regionR C false id ops dr k σ Q = opsR C ops ops.toList k σ Q := rfl
theorem oddR_of (hC : C.Good) {id : Nat} {ops : Array Oper} (p : Plan) (hok : planOk C ops false p (Array.replicate ops.size false) = true) (hs : planR C ops p k σ Q) (hrd : C.rd = none := by rfl) : oddR C id ops true k σ Q :=
  plan_wp hC p hok hs hrd
theorem planR_done (ops : Array Oper) : planR C ops .done k σ Q = cont C .normal k σ Q := rfl
theorem planR_stop (ops : Array Oper) : planR C ops .stop k σ Q = True := rfl
theorem planR_first (ops : Array Oper) (i : Nat) (p : Plan) : planR C ops (.first i p) k σ Q = someR C ops ops[i]? p k σ Q := by
  unfold planR goPlan opR someR; cases ops[i]? <;> rfl
theorem planR_fork (ops : Array Oper) (i : Nat) (p q : Plan) : planR C ops (.fork i p q) k σ Q = (someR C ops ops[i]? p k σ Q ∧ planR C ops q k σ Q) := by
  show (opR C ops i σ (goPlan C ops (contK C k Q .normal) p) ∧ goPlan C ops (contK C k Q .normal) q σ) = (someR C ops ops[i]? p k σ Q ∧ goPlan C ops (contK C k Q .normal) q σ)
  congr 1
theorem someR_some (ops : Array Oper) (o : Oper) (p : Plan) : someR C ops (some o) p k σ Q = opsR C ops [o] (.plan ops p :: k) σ Q := rfl
theorem cont_plan (ops : Array Oper) (p : Plan) : cont C .normal (.plan ops p :: k) σ Q = planR C ops p k σ Q := rfl
theorem cont_nil (ex : Exit) : cont C ex [] σ Q = Q ex σ := rfl
theorem cont_code (c : Code) : cont C .normal (.code c :: k) σ Q = run C c k σ Q := rfl
theorem cont_blk (id : Nat) : cont C .normal (.blk id :: k) σ Q = cont C .normal k σ Q := rfl
theorem cont_ret_code (c : Code) : cont C .ret (.code c :: k) σ Q = cont C .ret k σ Q := rfl
theorem cont_ret_blk (id : Nat) : cont C .ret (.blk id :: k) σ Q = cont C .ret k σ Q := rfl
theorem cont_exit_code (i : Nat) (c : Code) : cont C (.exit i) (.code c :: k) σ Q = cont C (.exit i) k σ Q := rfl
theorem cont_exit_blk (i id : Nat) : cont C (.exit i) (.blk id :: k) σ Q = if i = id then cont C .normal k σ Q else cont C (.exit i) k σ Q := rfl
theorem condR_bool (t : Bool) (x y : Code) : condR C (.v (.bool t)) x y k σ Q = if t = true then run C x k σ Q else run C y k σ Q := rfl
theorem opsR_nil : opsR C all [] k σ Q = cont C .normal k σ Q := rfl
theorem opsR_cons (dst : Option Tmp) (op : Op) (ty : TypeId) (pos : String) (after : Array Edge) : opsR C all (⟨dst, op, ty, pos, after, none⟩ :: l) k σ Q = stepV C ⟨dst, op, ty, pos, after, none⟩ all l k σ Q := rfl
theorem opsR_guard (dst : Option Tmp) (op : Op) (ty : TypeId) (pos : String) (after : Array Edge) (j : Nat) (want : Bool) {t : Tmp} (ht : (all[j]?).bind (·.dst) = some t) :
    opsR C all (⟨dst, op, ty, pos, after, some (j, want)⟩ :: l) k σ Q = wantR C (get σ.e t) want ⟨dst, op, ty, pos, after, some (j, want)⟩ all l k σ Q := by
  unfold opsR execOps wantA wantR
  simp only [ht]
  rfl
theorem wantR_bool (b want : Bool) (o : Oper) : wantR C (.v (.bool b)) want o all l k σ Q = if b = want then stepV C o all l k σ Q else opsR C all l k ⟨put σ.e o.dst (.tup []), σ.h⟩ Q := rfl
theorem wantR_skip (want : Bool) (o : Oper) : wantR C (.tup []) want o all l k σ Q = opsR C all l k ⟨put σ.e o.dst (.tup []), σ.h⟩ Q := rfl

theorem stepV_read (dst : Option Tmp) (op : Op) (ty : TypeId) (pos : String) (after : Array Edge) (g : Option (Nat × Bool)) (hc : clsT C.P op = .read) :
    stepV C ⟨dst, op, ty, pos, after, g⟩ all l k ⟨e, h⟩ Q = valR C (stepH C.P C.ro h e op) dst all l k e h Q := by
  unfold stepV step1; simp only [hc]; rfl
theorem stepV_eff (dst : Option Tmp) (op : Op) (ty : TypeId) (pos : String) (after : Array Edge) (g : Option (Nat × Bool)) (hc : clsT C.P op = .eff) :
    stepV C ⟨dst, op, ty, pos, after, g⟩ all l k ⟨e, h⟩ Q = outR C (effO C.P h e op) dst all l k e Q := by
  unfold stepV step1; simp only [hc]; rfl
theorem stepV_nil (dst : Option Tmp) (op : Op) (ty : TypeId) (pos : String) (after : Array Edge) (g : Option (Nat × Bool)) (hc : clsT C.P op = .nil) :
    stepV C ⟨dst, op, ty, pos, after, g⟩ all l k ⟨e, h⟩ Q = nilR C (nilCmp C.P e op) dst all l k e h Q := by
  unfold stepV step1; simp only [hc]; rfl
theorem stepV_call (dst : Option Tmp) (f : Operand) (args : Array Operand) (tys : Array TypeId) (ty : TypeId) (pos : String) (after : Array Edge) (g : Option (Nat × Bool)) :
    stepV C ⟨dst, .call ⟨.value f, args, tys⟩, ty, pos, after, g⟩ all l k ⟨e, h⟩ Q = callA C (callArgs e ⟨.value f, args, tys⟩) dst all l k e h Q := rfl

theorem valR_some (v : AV) : valR C (some v) d all l k e h Q = opsR C all l k ⟨put e d v, h⟩ Q := by simp [valR, holds]
theorem valR_none : valR C none d all l k e h Q = False := by simp [valR, holds]
theorem valR_guard (c : Prop) [Decidable c] (x : Option AV) : valR C (oguard c x) d all l k e h Q = (c ∧ valR C x d all l k e h Q) := by
  unfold valR holds oguard
  by_cases hc : c <;> simp [hc]
theorem valR_ite (c : Prop) [Decidable c] (x y : Option AV) : valR C (if c then x else y) d all l k e h Q = if c then valR C x d all l k e h Q else valR C y d all l k e h Q := by split <;> rfl
theorem outR_one (v : AV) (h' : List Blk) : outR C (some (.one v h')) d all l k e Q = opsR C all l k ⟨put e d v, h'⟩ Q := by simp [outR, holds, Out.all]
theorem outR_cap (n : Nat) (f : Nat → AV × List Blk) : outR C (some (.cap n f)) d all l k e Q = ∀ c, n ≤ c → opsR C all l k ⟨put e d (f c).1, (f c).2⟩ Q := by simp [outR, holds, Out.all]
theorem outR_none : outR C none d all l k e Q = False := by simp [outR, holds]
theorem outR_guard (c : Prop) [Decidable c] (x : Option Out) : outR C (oguard c x) d all l k e Q = (c ∧ outR C x d all l k e Q) := by
  unfold outR holds oguard
  by_cases hc : c <;> simp [hc]
theorem nilR_some (n : Nat) (q : Bool) : nilR C (some (n, q)) d all l k e h Q = ∀ t : Bool, (t = q → n = 0) → opsR C all l k ⟨put e d (.v (.bool t)), h⟩ Q := by simp [nilR, holds]
theorem callA_some (f : FuncId) (args : List AV) : callA C (some (f, args)) d all l k e h Q = callB C (C.pure f) f args d all l k e h Q := by
  simp only [callA, holds, Option.some.injEq, exists_eq_left']
  unfold callStep callB
  cases C.pure f <;> rfl
theorem callB_some (F : List AV → Option AV) (f : FuncId) (args : List AV) : callB C (some F) f args d all l k e h Q = valR C (F args) d all l k e h Q := rfl
theorem callB_none (f : FuncId) (args : List AV) : callB C none f args d all l k e h Q = callN C (C.news f) f args d all l k e h Q := by
  unfold callB callN outR
  cases C.news f <;> rfl
theorem callN_some (N : List Blk → List AV → Option Out) (f : FuncId) (args : List AV) : callN C (some N) f args d all l k e h Q = outR C (N h args) d all l k e Q := rfl
theorem callN_none (f : FuncId) (args : List AV) : callN C none f args d all l k e h Q = callC C f args d all l k e h Q := rfl

theorem guard_bind {α β : Type} (c : Prop) [Decidable c] (x : Option α) (f : α → Option β) : (oguard c x).bind f = oguard c (x.bind f) := by unfold oguard; split <;> rfl
theorem guard_map {α β : Type} (c : Prop) [Decidable c] (x : Option α) (f : α → β) : (oguard c x).map f = oguard c (x.map f) := by unfold oguard; split <;> rfl
theorem guard_true {α : Type} (x : Option α) : oguard True x = x := rfl
theorem guard_false {α : Type} (x : Option α) : oguard False x = none := rfl

theorem callC_of {f : FuncId} {args : List AV} {R : AV → List Blk → Prop} (hc : ACall C.P f args h R) (hk : ∀ v h', R v h' → opsR C all l k ⟨put e d v, h'⟩ Q) : callC C f args d all l k e h Q :=
  hc.mono hk

theorem callC_frame {f : FuncId} {argsC : List AV} {hc : List Blk} {R : AV → List Blk → Prop} (spec : ACall C.P f argsC hc R) {args : List AV} (π : List Nat)
    (hargs : args = renL (frameMap π h.length) argsC) (hlen : hc.length = π.length) (hπ : π.Nodup) (hlt : ∀ p ∈ π, p < h.length)
    (hblk : ∀ k, k < π.length → h[π.getD k 0]? = (hc[k]?).map (renB (frameMap π h.length)))
    (hκ : ∀ av h', R av h' → opsR C all l k ⟨put e d (av.ren (frameMap π h.length)), overwrite h π (h'.map (renB (frameMap π h.length)))⟩ Q) : callC C f args d all l k e h Q :=
  ACall.frame spec π hargs hlen hπ hlt hblk hκ

theorem loopR_of (hC : C.Good) {b : Code} {α : Type} (S : α → St) (m : α → Nat) (x0 : α) (hb : drawOk C b = true) (h0 : Weak C σ (S x0))
    (round : ∀ x, run C b [] (S x) (fun ex σ' => thenK (fun σ' => ∃ y, m y < m x ∧ Weak C σ' (S y)) (fun ex σ' => cont C ex k σ' Q) ex σ')) : loopR C b k σ Q :=
  AWP.loop hC S m x0 hb h0 fun x => round x
end

theorem acall_run {C : Cfg} (hC : C.Good) {f : FuncId} {fn : Func} {c : Code} {args : List AV} {h : List Blk} {κ : AV → List Blk → Prop} (hf : C.P.funcs[f]? = some fn) (hb : fn.body = some c)
    (hok : hasBody C.P f = true ∧ args.length ≤ fn.ntmps ∧ Code.dstOk fn.ntmps c = true ∧ drawOk C c = true) (hk : h.length = C.k)
    (hs : run C c [] ⟨envOf args, h⟩ (retK C.P fn κ)) (hrd : C.rd = none := by rfl) : ACall C.P f args h κ := acall_body hC hf hb hok hk hs hrd

theorem pure_call {P : Program} {f : FuncId} {args : List AV} {v0 : AV} (hc : ACall P f args [] fun v _ => v = v0) (hv0 : ∀ g, v0.ren g = v0) (ha : ∀ g, renL g args = args) (h : List Blk)
    (κ : AV → List Blk → Prop) (hκ : κ v0 h) : ACall P f args h κ := by
  refine ⟨hc.1, ?_⟩
  intro E w ρ vs h1 h2 h3
  let Ec : Nat → Prop := fun r => E r ∨ own ρ h r
  have hno : ∀ (ρ : List (Option Nat)) r, ¬ own ρ [] r := by
    rintro ρ r ⟨b, _, ps, hp⟩; simp at hp
  have hX : XOf Ec [] [] = XOf E ρ h := by
    funext r; apply propext; unfold XOf
    exact ⟨fun h => h.elim id (fun h => absurd h (hno _ r)), fun h => .inl h⟩
  have hvs : relVs (XOf Ec [] []) w [] args vs.toList := by
    rw [hX]
    refine relVs_ren (ρ := ρ) (f := fun _ => ρ.length) (fun b o hb => by simp at hb) args _ ?_
    rw [ha]; exact h1
  refine (hc.2 Ec w [] vs hvs ⟨rfl, fun b ps hb => by simp at hb, fun b b' r hb => by simp at hb⟩ ?_).mono ?_
  · rintro r (h4 | h4)
    · exact ⟨(h3 r h4).1, hno _ r⟩
    · exact ⟨h2.own_lt h4, hno _ r⟩
  · rintro en w' ⟨av, v, ρ', h', rfl, rfl, hv, hh, hext, how, hfr⟩
    have hfr0 : Frame (fun _ => False) w w' := hfr.mono (fun r h4 => hno _ r h4)
    have hk : Keep (XOf E ρ h) w w' := (hfr0.mono (fun _ h => h.elim)).keep
    refine ⟨av, v, ρ, h, rfl, hκ, ?_, ?_, fun _ _ h4 => h4, fun r h4 => .inl h4, hfr0.mono (fun _ h => h.elim)⟩
    · have h5 : AV.relV (XOf Ec ρ' h') w' ρ' (av.ren fun _ => ρ'.length) v := by rw [hv0]; exact hv
      have h6 := relV_ren (ρ := ρ') (ρ' := ρ) (f := fun _ => ρ'.length) (fun b o hb => by simp at hb) av v h5
      exact relV_keep Keep.refl (fun r _ h4 => .inl h4) av ρ ρ v (fun _ _ h => h) h6
    · refine ⟨h2.len, fun b ps hb => (h2.blk b ps hb).keep hk (fun _ _ h => h) (fun _ _ h => h) ?_, h2.inj⟩
      intro r hr
      exact hfr0.same r (h2.own_lt ⟨b, hr, ps, hb⟩) (fun h => h)

def addPure (p : FuncId → Option (List AV → Option AV)) (f : FuncId) (F : List AV → Option AV) : FuncId → Option (List AV → Option AV) := fun g => if g = f then some F else p g

theorem Cfg.Good.add {C : Cfg} (hC : C.Good) {f : FuncId} {F : List AV → Option AV} (hF : ∀ args v, F args = some v → ∀ h κ, κ v h → ACall C.P f args h κ) (k : Nat) :
    Cfg.Good { C with pure := addPure C.pure f F, k := k } := by
  refine ⟨hC.1, ?_, hC.2.2⟩
  intro g G args v hg hv h κ hκ
  simp only [addPure] at hg
  split at hg
  · rename_i he; subst he; cases hg; exact hF args v hv h κ hκ
  · exact hC.2.1 g G args v hg hv h κ hκ

def addNews (p : FuncId → Option (List Blk → List AV → Option Out)) (f : FuncId) (F : List Blk → List AV → Option Out) : FuncId → Option (List Blk → List AV → Option Out) := fun g => if g = f then some F else p g

theorem Cfg.Good.addN {C : Cfg} (hC : C.Good) {f : FuncId} {F : List Blk → List AV → Option Out} (hF : ∀ h args out, F h args = some out → (out.all fun _ h' => ∃ ext, h' = h ++ ext) ∧ ∀ κ, out.all κ → ACall C.P f args h κ) (k : Nat) :
    Cfg.Good { C with news := addNews C.news f F, k := k } := by
  refine ⟨hC.1, hC.2.1, ?_⟩
  intro g G h args out hg ho
  simp only [addNews] at hg
  split at hg
  · rename_i he; subst he; cases hg; exact hF h args out ho
  · exact hC.2.2 g G h args out hg ho

theorem Cfg.Good.odd {C : Cfg} (hC : C.Good) (l : List Nat) : Cfg.Good { C with odd := l } := hC

theorem Cfg.Good.k {C : Cfg} (hC : C.Good) (k : Nat) : Cfg.Good { C with k := k } := hC
end Go.Ax

namespace Go.Ax
def nilA : AV → Option AV
  | .ptr b base i => some (.ptr b base i)
  | .rop y => some (.rop y)
  | .fn (.func f) a b => some (.fn (.func f) a b)
  | _ => none
def ixAddrA (P : Program) (t : TypeId) (x ix : AV) : Option AV :=
  match ix with
  | .v (.int _ n) => indexAddrA P t x n
  | _ => none
def ixA (P : Program) (t : TypeId) (x ix : AV) : Option AV :=
  match ix with
  | .v (.int _ n) => indexA P t x n
  | _ => none
def extA (x : AV) (i : Nat) : Option AV :=
  match x with
  | .tup ps => ps[i]?
  | _ => none
def calA (f : AV) (args : List AV) : Option (FuncId × List AV) :=
  match f with
  | .fn (.func g) first caps => some (g, first ++ args ++ caps)
  | _ => none
theorem nilA_ptr (b base i : Nat) : nilA (.ptr b base i) = some (.ptr b base i) := rfl
theorem nilA_rop (x : AV) : nilA (.rop x) = some (.rop x) := rfl
theorem nilA_fn (f : FuncId) (a b : List AV) : nilA (.fn (.func f) a b) = some (.fn (.func f) a b) := rfl
def ldI (b : Bool) (h : List Blk) : List Blk := if b = true then [] else h
def ldH (ro : List Nat) (a : Operand) (h : List Blk) : List Blk :=
  match a with
  | .tmp i => ldI (ro.contains i) h
  | _ => h
theorem ldI_t (h : List Blk) : ldI true h = [] := rfl
theorem ldI_f (h : List Blk) : ldI false h = h := rfl
theorem ldH_tmp (ro : List Nat) (i : Nat) (h : List Blk) : ldH ro (.tmp i) h = ldI (ro.contains i) h := rfl
theorem ixAddrA_int (P : Program) (t : TypeId) (x : AV) (i : IntKind) (n : Int) : ixAddrA P t x (.v (.int i n)) = indexAddrA P t x n := rfl
theorem ixA_int (P : Program) (t : TypeId) (x : AV) (i : IntKind) (n : Int) : ixA P t x (.v (.int i n)) = indexA P t x n := rfl
theorem extA_tup (ps : List AV) (i : Nat) : extA (.tup ps) i = ps[i]? := rfl
theorem calA_fn (g : FuncId) (first args caps : List AV) : calA (.fn (.func g) first caps) args = some (g, first ++ args ++ caps) := rfl
section
variable {C : Cfg} {k : List KI} {σ : St} {Q : Exit → St → Prop} {all : Array Oper} {l : List Oper} {e : Env} {h : List Blk} {d : Option Tmp}
variable {P : Program}

theorem opsR_cons_g (dst : Option Tmp) (op : Op) (ty : TypeId) (pos : String) (after : Array Edge) (j : Nat) (want : Bool) :
    opsR C all (⟨dst, op, ty, pos, after, some (j, want)⟩ :: l) k σ Q =
      match (all[j]?).bind (·.dst) with
      | some t => wantR C (get σ.e t) want ⟨dst, op, ty, pos, after, some (j, want)⟩ all l k σ Q
      | none => opsR C all l k ⟨put σ.e dst (.tup []), σ.h⟩ Q := by
  cases ht : (all[j]?).bind (·.dst) with
  | some t => exact opsR_guard dst op ty pos after j want ht
  | none =>
    unfold opsR execOps wantA
    simp only [ht]
    cases l <;> rfl

-- operations that read
theorem s_move (x : Operand) : stepR P h e (.move x) = some (ev e x) := rfl
theorem s_assign (x : Operand) : stepR P h e (.assign x) = some (ev e x) := rfl
theorem s_pick (c a b : Operand) : stepR P h e (.pick c a b) = match ev e c with
    | .v (.bool t) => some (if t then ev e a else ev e b)
    | _ => none := rfl
theorem s_load (t : TypeId) (a : Operand) : stepR P h e (.load t a) = loadA P h t (ev e a) := rfl
theorem s_nilCheck (x : Operand) : stepR P h e (.nilCheck x) = match ev e x with
    | .ptr b base i => some (.ptr b base i)
    | .rop y => some (.rop y)
    | .fn (.func f) a b => some (.fn (.func f) a b)
    | _ => none := rfl
theorem s_bin (op : BinOp) (t : TypeId) (x y : Operand) (t' : TypeId) : stepR P h e (.binOp op t x y t') = binA P op t (ev e x) (ev e y) := rfl
theorem s_un (op : UnOp) (t : TypeId) (x : Operand) : stepR P h e (.unOp op t x) = unA op (ev e x) := rfl
theorem s_conv (a b : TypeId) (x : Operand) : stepR P h e (.convert a b x) = convA P h a b (ev e x) := rfl
theorem s_arrayAt (t : TypeId) (x : Operand) : stepR P h e (.sliceToArrayPointer t x) = arrayAtA P t (ev e x) := rfl
theorem s_makeFunc (f : Fn) (a b : Array Operand) : stepR P h e (.makeFunc f a b) = some (.fn f (a.toList.map (ev e)) (b.toList.map (ev e))) := rfl
theorem s_slice (t : TypeId) (x : Operand) (lo hi mx : Option Operand) : stepR P h e (.slice t x lo hi mx) = sliceA P h t (ev e x) (optA e lo) (optA e hi) (optA e mx) := rfl
theorem s_fieldAddr (s : TypeId) (x : Operand) (f : Nat) : stepR P h e (.fieldAddr s x f) = fieldAddrA P s (ev e x) f := rfl
theorem s_field (s : TypeId) (x : Operand) (f : Nat) : stepR P h e (.field s x f) = if (ev e x).isAggV then fieldA P s (ev e x) f else none := rfl
theorem s_indexAddr (t : TypeId) (x ix : Operand) : stepR P h e (.indexAddr t x ix) = match ev e ix with
    | .v (.int _ n) => indexAddrA P t (ev e x) n
    | _ => none := rfl
theorem s_index (t : TypeId) (x ix : Operand) : stepR P h e (.index t x ix) = match ev e ix with
    | .v (.int _ n) => indexA P t (ev e x) n
    | _ => none := rfl
theorem s_extract (x : Operand) (i : Nat) : stepR P h e (.extract x i) = match ev e x with
    | .tup ps => ps[i]?
    | _ => none := rfl
theorem s_call (b : Builtin) (args : Array Operand) (ts : Array TypeId) : stepR P h e (.call ⟨.builtin b, args, ts⟩) = builtinR P b (args.toList.map (ev e)) ts.toList := rfl
theorem s_builtin_len (x : AV) (t : TypeId) : builtinR P .len [x] [t] = match kindT P t with
    | .slice _ => (lenA x).map fun (n : Nat) => .v (.int .i64 (n : Int))
    | .string => match x with | .v (.string s) => some (.v (.int .i64 (s.size : Int))) | _ => none
    | _ => none := rfl
theorem s_builtin_min (k : IntKind) (a b : Int) (ts : List TypeId) : builtinR P .min [.v (.int k a), .v (.int k b)] ts = some (.v (.int k (if b < a then b else a))) := by
  simp [builtinR, minsA]
theorem s_builtin_max (k : IntKind) (a b : Int) (ts : List TypeId) : builtinR P .max [.v (.int k a), .v (.int k b)] ts = some (.v (.int k (if b > a then b else a))) := by
  simp [builtinR, maxsA]

theorem ev_tmp (t : Nat) : ev e (.tmp t) = get e t := rfl
theorem ev_const (v : Value) : ev e (.const v) = constAV v := rfl
theorem ev_func (f : FuncId) : ev e (.func f) = .fn (.func f) [] [] := rfl
theorem constAV_int (k : IntKind) (n : Int) : constAV (.int k n) = .v (.int k n) := rfl
theorem constAV_bool (b : Bool) : constAV (.bool b) = .v (.bool b) := rfl
theorem constAV_string (b : ByteArray) : constAV (.string b) = .v (.string b) := rfl
theorem constAV_pointer (b : Option Addr) : constAV (.pointer b) = .v (.pointer b) := rfl
theorem constAV_slice (b : Option Addr) (n m : Nat) : constAV (.slice b n m) = .v (.slice b n m) := rfl
theorem optA_none : optA e none = none := rfl
theorem optA_some (x : Operand) : optA e (some x) = some (ev e x) := rfl

-- classes
theorem c_eql (t t' : TypeId) (x y : Operand) : clsT P (.binOp .eql t x y t') = match kindT P t with | .slice _ => .nil | _ => .read := rfl
theorem c_neq (t t' : TypeId) (x y : Operand) : clsT P (.binOp .neq t x y t') = match kindT P t with | .slice _ => .nil | _ => .read := rfl
theorem c_conv (a b : TypeId) (x : Operand) : clsT P (.convert a b x) = match kindT P a, kindT P b with | .string, .slice _ => .eff | .slice _, .slice _ => .eff | _, _ => .read := rfl

-- binary operations
variable {t : TypeId} {i : IntKind} {a b : Int}
theorem b_add : binA P .add t (.v (.int i a)) (.v (.int i b)) = some (.v (.int i (i.wrap (a + b)))) := by simp [binA, intBin]
theorem b_sub : binA P .sub t (.v (.int i a)) (.v (.int i b)) = some (.v (.int i (i.wrap (a - b)))) := by simp [binA, intBin]
theorem b_mul : binA P .mul t (.v (.int i a)) (.v (.int i b)) = some (.v (.int i (i.wrap (a * b)))) := by simp [binA, intBin]
theorem b_quo : binA P .quo t (.v (.int i a)) (.v (.int i b)) = oguard (b ≠ 0) (some (.v (.int i (i.wrap (a.tdiv b))))) := by simp [binA, intBin]
theorem b_rem : binA P .rem t (.v (.int i a)) (.v (.int i b)) = oguard (b ≠ 0) (some (.v (.int i (a.tmod b)))) := by simp [binA, intBin]
theorem b_and : binA P .and t (.v (.int i a)) (.v (.int i b)) = some (.v (.int i (i.wrap (BitVec.ofInt i.bits a &&& BitVec.ofInt i.bits b).toNat))) := by simp [binA, intBin]
theorem b_or : binA P .or t (.v (.int i a)) (.v (.int i b)) = some (.v (.int i (i.wrap (BitVec.ofInt i.bits a ||| BitVec.ofInt i.bits b).toNat))) := by simp [binA, intBin]
theorem b_xor : binA P .xor t (.v (.int i a)) (.v (.int i b)) = some (.v (.int i (i.wrap (BitVec.ofInt i.bits a ^^^ BitVec.ofInt i.bits b).toNat))) := by simp [binA, intBin]
theorem b_eql : binA P .eql t (.v (.int i a)) (.v (.int i b)) = some (.v (.bool (a == b))) := by simp [binA, intBin]
theorem b_neq : binA P .neq t (.v (.int i a)) (.v (.int i b)) = some (.v (.bool (a != b))) := by simp [binA, intBin]
theorem b_lss : binA P .lss t (.v (.int i a)) (.v (.int i b)) = some (.v (.bool (decide (a < b)))) := by simp [binA, intBin]
theorem b_leq : binA P .leq t (.v (.int i a)) (.v (.int i b)) = some (.v (.bool (decide (a ≤ b)))) := by simp [binA, intBin]
theorem b_gtr : binA P .gtr t (.v (.int i a)) (.v (.int i b)) = some (.v (.bool (decide (a > b)))) := by simp [binA, intBin]
theorem b_geq : binA P .geq t (.v (.int i a)) (.v (.int i b)) = some (.v (.bool (decide (a ≥ b)))) := by simp [binA, intBin]
theorem b_shl {j : IntKind} : binA P .shl t (.v (.int i a)) (.v (.int j b)) = oguard (0 ≤ b) (some (.v (.int i (shl i a b)))) := rfl
theorem b_shr {j : IntKind} : binA P .shr t (.v (.int i a)) (.v (.int j b)) = oguard (0 ≤ b) (some (.v (.int i (shr i a b)))) := rfl
theorem b_seq {x y : ByteArray} : binA P .eql t (.v (.string x)) (.v (.string y)) = some (.v (.bool (x.toList == y.toList))) := rfl
theorem b_sne {x y : ByteArray} : binA P .neq t (.v (.string x)) (.v (.string y)) = some (.v (.bool (!(x.toList == y.toList)))) := rfl
theorem b_beq {x y : Bool} : binA P .eql t (.v (.bool x)) (.v (.bool y)) = if kindT P t = .bool then some (.v (.bool (x == y))) else none := rfl
theorem b_bne {x y : Bool} : binA P .neq t (.v (.bool x)) (.v (.bool y)) = if kindT P t = .bool then some (.v (.bool (!(x == y)))) else none := rfl
theorem b_peq : binA P .eql t (.v (.pointer none)) (.v (.pointer none)) = if kindT P t = .pointer then some (.v (.bool true)) else none := rfl
theorem b_pne : binA P .neq t (.v (.pointer none)) (.v (.pointer none)) = if kindT P t = .pointer then some (.v (.bool false)) else none := rfl
theorem b_qeq {x y z : Nat} : binA P .eql t (.ptr x y z) (.v (.pointer none)) = if kindT P t = .pointer then some (.v (.bool false)) else none := rfl
theorem b_qne {x y z : Nat} : binA P .neq t (.ptr x y z) (.v (.pointer none)) = if kindT P t = .pointer then some (.v (.bool true)) else none := rfl
theorem b_aeq {n m : Nat} {j : IntKind} {x y : List Int} : binA P .eql t (.arr n i x) (.arr m j y) = if eqArrT P t = some (n, i) ∧ n = m ∧ i = j then some (.v (.bool (x == y))) else none := rfl
theorem b_ane {n m : Nat} {j : IntKind} {x y : List Int} : binA P .neq t (.arr n i x) (.arr m j y) = if eqArrT P t = some (n, i) ∧ n = m ∧ i = j then some (.v (.bool (!(x == y)))) else none := rfl
theorem u_neg : unA .neg (.v (.int i a)) = some (.v (.int i (i.wrap (0 - a)))) := rfl
theorem u_xor : unA .xor (.v (.int i a)) = intBin .xor i (if i.signed then -1 else i.max) a := rfl
theorem u_not {x : Bool} : unA .not (.v (.bool x)) = some (.v (.bool (!x))) := rfl
theorem i_xor : intBin .xor i a b = some (.v (.int i (i.wrap (BitVec.ofInt i.bits a ^^^ BitVec.ofInt i.bits b).toNat))) := rfl
theorem v_int_conv {x y : TypeId} : convA P h x y (.v (.int i a)) = match kindT P x, kindT P y with
    | .int _, .int k => some (.v (.int k (k.wrap a)))
    | _, _ => none := rfl

-- results
theorem retK_ret (fn : Func) (κ : AV → List Blk → Prop) : retK P fn κ .ret σ = holds (resList P σ fn.results.toList) fun vs => κ (packA vs) σ.h := rfl
theorem retK_normal (fn : Func) (κ : AV → List Blk → Prop) : retK P fn κ .normal σ = holds (resList P σ fn.results.toList) fun vs => κ (packA vs) σ.h := rfl
theorem resList_nil : resList P σ [] = some [] := rfl
theorem resList_tmp (t : Tmp) (rs : List ResultVar) : resList P σ (.tmp t :: rs) = (resList P σ rs).map fun vs => get σ.e t :: vs := rfl
theorem resList_cell (x : Tmp) (t : TypeId) (rs : List ResultVar) : resList P σ (.cell x t :: rs) = (loadA P σ.h t (get σ.e x)).bind fun v => (resList P σ rs).map fun vs => v :: vs := rfl
theorem packA_one (v : AV) : packA [v] = v := rfl
theorem packA_nil : packA [] = .tup [] := rfl
theorem packA_two (v v' : AV) (vs : List AV) : packA (v :: v' :: vs) = .tup (v :: v' :: vs) := rfl
theorem holds_some {α : Type} (v : α) (κ : α → Prop) : holds (some v) κ = κ v := by simp [holds]
theorem holds_none {α : Type} (κ : α → Prop) : holds none κ = False := by simp [holds]
theorem holds_guard {α : Type} (c : Prop) [Decidable c] (x : Option α) (κ : α → Prop) : holds (oguard c x) κ = (c ∧ holds x κ) := by
  unfold holds oguard
  by_cases hc : c <;> simp [hc]
theorem ite_bool_cond {α : Type} (c : Prop) [Decidable c] (x y : α) : (if decide c = true then x else y) = if c then x else y := by simp
theorem row_def (h : List Blk) (b : Nat) : row h b = match h[b]? with
  | some (some ps) => some ps
  | _ => none := rfl
end
end Go.Ax

namespace Go.Ax
def eqR (C : Cfg) (kt : Kd) (op : BinOp) (t : TypeId) (x y : Operand) (t' : TypeId) (d : Option Tmp) (all : Array Oper) (l : List Oper) (k : List KI) (e : Env) (h : List Blk) (Q : Exit → St → Prop) : Prop :=
  match kt with
  | .slice _ => nilR C (nilCmp C.P e (.binOp op t x y t')) d all l k e h Q
  | _ => valR C (binA C.P op t (ev e x) (ev e y)) d all l k e h Q
def convR (C : Cfg) (ka kb : Kd) (a b : TypeId) (x : Operand) (d : Option Tmp) (all : Array Oper) (l : List Oper) (k : List KI) (e : Env) (h : List Blk) (Q : Exit → St → Prop) : Prop :=
  match ka, kb with
  | .string, .slice _ => outR C ((strBytesA C.P h a b (ev e x)).or (markA C.P h a b (ev e x))) d all l k e Q
  | .slice _, .slice _ => outR C ((strBytesA C.P h a b (ev e x)).or (markA C.P h a b (ev e x))) d all l k e Q
  | _, _ => valR C (convA C.P h a b (ev e x)) d all l k e h Q
section
variable {C : Cfg} {k : List KI} {Q : Exit → St → Prop} {all : Array Oper} {l : List Oper} {e : Env} {h : List Blk}
variable {dst : Option Tmp} {ty : TypeId} {pos : String} {after : Array Edge} {g : Option (Nat × Bool)}
theorem eqR_eql (t t' : TypeId) (x y : Operand) : stepV C ⟨dst, .binOp .eql t x y t', ty, pos, after, g⟩ all l k ⟨e, h⟩ Q = eqR C (kindT C.P t) .eql t x y t' dst all l k e h Q := by
  unfold eqR
  split
  · rename_i hk; exact stepV_nil _ _ _ _ _ _ (by simp only [clsT, hk])
  · rename_i hk; exact stepV_read _ _ _ _ _ _ (by unfold clsT; split <;> simp_all)
theorem eqR_neq (t t' : TypeId) (x y : Operand) : stepV C ⟨dst, .binOp .neq t x y t', ty, pos, after, g⟩ all l k ⟨e, h⟩ Q = eqR C (kindT C.P t) .neq t x y t' dst all l k e h Q := by
  unfold eqR
  split
  · rename_i hk; exact stepV_nil _ _ _ _ _ _ (by simp only [clsT, hk])
  · rename_i hk; exact stepV_read _ _ _ _ _ _ (by unfold clsT; split <;> simp_all)
theorem convR_ok (a b : TypeId) (x : Operand) : stepV C ⟨dst, .convert a b x, ty, pos, after, g⟩ all l k ⟨e, h⟩ Q = convR C (kindT C.P a) (kindT C.P b) a b x dst all l k e h Q := by
  unfold convR
  split
  · rename_i hk hk2; exact stepV_eff _ _ _ _ _ _ (by simp only [clsT, hk, hk2])
  · rename_i hk hk2; exact stepV_eff _ _ _ _ _ _ (by simp only [clsT, hk, hk2])
  · rename_i hk; exact stepV_read _ _ _ _ _ _ (by unfold clsT; split <;> simp_all)
variable {op : BinOp} {t t' : TypeId} {x y : Operand} {a b : TypeId}
theorem v_eqR_int (i : IntKind) : eqR C (.int i) op t x y t' dst all l k e h Q = valR C (binA C.P op t (ev e x) (ev e y)) dst all l k e h Q := rfl
theorem v_eqR_bool : eqR C .bool op t x y t' dst all l k e h Q = valR C (binA C.P op t (ev e x) (ev e y)) dst all l k e h Q := rfl
theorem v_eqR_string : eqR C .string op t x y t' dst all l k e h Q = valR C (binA C.P op t (ev e x) (ev e y)) dst all l k e h Q := rfl
theorem v_eqR_pointer : eqR C .pointer op t x y t' dst all l k e h Q = valR C (binA C.P op t (ev e x) (ev e y)) dst all l k e h Q := rfl
theorem v_eqR_array : eqR C .array op t x y t' dst all l k e h Q = valR C (binA C.P op t (ev e x) (ev e y)) dst all l k e h Q := rfl
theorem v_eqR_struct : eqR C .struct op t x y t' dst all l k e h Q = valR C (binA C.P op t (ev e x) (ev e y)) dst all l k e h Q := rfl
theorem v_eqR_slice (c : Bool) : eqR C (.slice c) op t x y t' dst all l k e h Q = nilR C (nilCmp C.P e (.binOp op t x y t')) dst all l k e h Q := rfl
theorem v_convR_int (i j : IntKind) : convR C (.int i) (.int j) a b x dst all l k e h Q = valR C (convA C.P h a b (ev e x)) dst all l k e h Q := rfl
theorem v_convR_string : convR C .string .string a b x dst all l k e h Q = valR C (convA C.P h a b (ev e x)) dst all l k e h Q := rfl
theorem v_convR_bytes (c : Bool) : convR C .string (.slice c) a b x dst all l k e h Q = outR C ((strBytesA C.P h a b (ev e x)).or (markA C.P h a b (ev e x))) dst all l k e Q := rfl
theorem v_convR_same (c c' : Bool) : convR C (.slice c) (.slice c') a b x dst all l k e h Q = outR C ((strBytesA C.P h a b (ev e x)).or (markA C.P h a b (ev e x))) dst all l k e Q := rfl
theorem v_convR_slice (c : Bool) : convR C (.slice c) .string a b x dst all l k e h Q = valR C (convA C.P h a b (ev e x)) dst all l k e h Q := rfl

theorem v_move (x : Operand) : stepV C ⟨dst, .move x, ty, pos, after, g⟩ all l k ⟨e, h⟩ Q = opsR C all l k ⟨put e dst (ev e x), h⟩ Q := (stepV_read _ _ _ _ _ _ rfl).trans (valR_some _)
theorem v_assign (x : Operand) : stepV C ⟨dst, .assign x, ty, pos, after, g⟩ all l k ⟨e, h⟩ Q = opsR C all l k ⟨put e dst (ev e x), h⟩ Q := (stepV_read _ _ _ _ _ _ rfl).trans (valR_some _)
theorem v_pick (c a b : Operand) : stepV C ⟨dst, .pick c a b, ty, pos, after, g⟩ all l k ⟨e, h⟩ Q = valR C (match ev e c with | .v (.bool t) => some (if t = true then ev e a else ev e b) | _ => none) dst all l k e h Q := stepV_read _ _ _ _ _ _ rfl
theorem v_load (t : TypeId) (a : Operand) : stepV C ⟨dst, .load t a, ty, pos, after, g⟩ all l k ⟨e, h⟩ Q = valR C (loadA C.P (ldH C.ro a h) t (ev e a)) dst all l k e h Q := (stepV_read _ _ _ _ _ _ rfl).trans (by cases a <;> rfl)
theorem v_nilCheck (x : Operand) : stepV C ⟨dst, .nilCheck x, ty, pos, after, g⟩ all l k ⟨e, h⟩ Q = valR C (nilA (ev e x)) dst all l k e h Q := stepV_read _ _ _ _ _ _ rfl
theorem v_add (t t' : TypeId) (x y : Operand) : stepV C ⟨dst, .binOp .add t x y t', ty, pos, after, g⟩ all l k ⟨e, h⟩ Q = valR C (binA C.P .add t (ev e x) (ev e y)) dst all l k e h Q := stepV_read _ _ _ _ _ _ rfl
theorem v_sub (t t' : TypeId) (x y : Operand) : stepV C ⟨dst, .binOp .sub t x y t', ty, pos, after, g⟩ all l k ⟨e, h⟩ Q = valR C (binA C.P .sub t (ev e x) (ev e y)) dst all l k e h Q := stepV_read _ _ _ _ _ _ rfl
theorem v_mul (t t' : TypeId) (x y : Operand) : stepV C ⟨dst, .binOp .mul t x y t', ty, pos, after, g⟩ all l k ⟨e, h⟩ Q = valR C (binA C.P .mul t (ev e x) (ev e y)) dst all l k e h Q := stepV_read _ _ _ _ _ _ rfl
theorem v_quo (t t' : TypeId) (x y : Operand) : stepV C ⟨dst, .binOp .quo t x y t', ty, pos, after, g⟩ all l k ⟨e, h⟩ Q = valR C (binA C.P .quo t (ev e x) (ev e y)) dst all l k e h Q := stepV_read _ _ _ _ _ _ rfl
theorem v_rem (t t' : TypeId) (x y : Operand) : stepV C ⟨dst, .binOp .rem t x y t', ty, pos, after, g⟩ all l k ⟨e, h⟩ Q = valR C (binA C.P .rem t (ev e x) (ev e y)) dst all l k e h Q := stepV_read _ _ _ _ _ _ rfl
theorem v_and (t t' : TypeId) (x y : Operand) : stepV C ⟨dst, .binOp .and t x y t', ty, pos, after, g⟩ all l k ⟨e, h⟩ Q = valR C (binA C.P .and t (ev e x) (ev e y)) dst all l k e h Q := stepV_read _ _ _ _ _ _ rfl
theorem v_or (t t' : TypeId) (x y : Operand) : stepV C ⟨dst, .binOp .or t x y t', ty, pos, after, g⟩ all l k ⟨e, h⟩ Q = valR C (binA C.P .or t (ev e x) (ev e y)) dst all l k e h Q := stepV_read _ _ _ _ _ _ rfl
theorem v_xor (t t' : TypeId) (x y : Operand) : stepV C ⟨dst, .binOp .xor t x y t', ty, pos, after, g⟩ all l k ⟨e, h⟩ Q = valR C (binA C.P .xor t (ev e x) (ev e y)) dst all l k e h Q := stepV_read _ _ _ _ _ _ rfl
theorem v_andNot (t t' : TypeId) (x y : Operand) : stepV C ⟨dst, .binOp .andNot t x y t', ty, pos, after, g⟩ all l k ⟨e, h⟩ Q = valR C (binA C.P .andNot t (ev e x) (ev e y)) dst all l k e h Q := stepV_read _ _ _ _ _ _ rfl
theorem v_shl (t t' : TypeId) (x y : Operand) : stepV C ⟨dst, .binOp .shl t x y t', ty, pos, after, g⟩ all l k ⟨e, h⟩ Q = valR C (binA C.P .shl t (ev e x) (ev e y)) dst all l k e h Q := stepV_read _ _ _ _ _ _ rfl
theorem v_shr (t t' : TypeId) (x y : Operand) : stepV C ⟨dst, .binOp .shr t x y t', ty, pos, after, g⟩ all l k ⟨e, h⟩ Q = valR C (binA C.P .shr t (ev e x) (ev e y)) dst all l k e h Q := stepV_read _ _ _ _ _ _ rfl
theorem v_lss (t t' : TypeId) (x y : Operand) : stepV C ⟨dst, .binOp .lss t x y t', ty, pos, after, g⟩ all l k ⟨e, h⟩ Q = valR C (binA C.P .lss t (ev e x) (ev e y)) dst all l k e h Q := stepV_read _ _ _ _ _ _ rfl
theorem v_leq (t t' : TypeId) (x y : Operand) : stepV C ⟨dst, .binOp .leq t x y t', ty, pos, after, g⟩ all l k ⟨e, h⟩ Q = valR C (binA C.P .leq t (ev e x) (ev e y)) dst all l k e h Q := stepV_read _ _ _ _ _ _ rfl
theorem v_gtr (t t' : TypeId) (x y : Operand) : stepV C ⟨dst, .binOp .gtr t x y t', ty, pos, after, g⟩ all l k ⟨e, h⟩ Q = valR C (binA C.P .gtr t (ev e x) (ev e y)) dst all l k e h Q := stepV_read _ _ _ _ _ _ rfl
theorem v_geq (t t' : TypeId) (x y : Operand) : stepV C ⟨dst, .binOp .geq t x y t', ty, pos, after, g⟩ all l k ⟨e, h⟩ Q = valR C (binA C.P .geq t (ev e x) (ev e y)) dst all l k e h Q := stepV_read _ _ _ _ _ _ rfl
theorem v_eql (t t' : TypeId) (x y : Operand) : stepV C ⟨dst, .binOp .eql t x y t', ty, pos, after, g⟩ all l k ⟨e, h⟩ Q = eqR C (kindT C.P t) .eql t x y t' dst all l k e h Q := eqR_eql ..
theorem v_neq (t t' : TypeId) (x y : Operand) : stepV C ⟨dst, .binOp .neq t x y t', ty, pos, after, g⟩ all l k ⟨e, h⟩ Q = eqR C (kindT C.P t) .neq t x y t' dst all l k e h Q := eqR_neq ..
theorem v_un (op : UnOp) (t : TypeId) (x : Operand) : stepV C ⟨dst, .unOp op t x, ty, pos, after, g⟩ all l k ⟨e, h⟩ Q = valR C (unA op (ev e x)) dst all l k e h Q := stepV_read _ _ _ _ _ _ rfl
theorem v_conv (a b : TypeId) (x : Operand) : stepV C ⟨dst, .convert a b x, ty, pos, after, g⟩ all l k ⟨e, h⟩ Q = convR C (kindT C.P a) (kindT C.P b) a b x dst all l k e h Q := convR_ok ..
theorem v_arrayAt (t : TypeId) (x : Operand) : stepV C ⟨dst, .sliceToArrayPointer t x, ty, pos, after, g⟩ all l k ⟨e, h⟩ Q = valR C (arrayAtA C.P t (ev e x)) dst all l k e h Q := stepV_read _ _ _ _ _ _ rfl
theorem v_makeFunc (f : Fn) (a b : Array Operand) : stepV C ⟨dst, .makeFunc f a b, ty, pos, after, g⟩ all l k ⟨e, h⟩ Q = opsR C all l k ⟨put e dst (.fn f (a.toList.map (ev e)) (b.toList.map (ev e))), h⟩ Q := (stepV_read _ _ _ _ _ _ rfl).trans (valR_some _)
theorem v_slice (t : TypeId) (x : Operand) (lo hi mx : Option Operand) : stepV C ⟨dst, .slice t x lo hi mx, ty, pos, after, g⟩ all l k ⟨e, h⟩ Q = valR C (sliceA C.P h t (ev e x) (optA e lo) (optA e hi) (optA e mx)) dst all l k e h Q := stepV_read _ _ _ _ _ _ rfl
theorem v_fieldAddr (s : TypeId) (x : Operand) (f : Nat) : stepV C ⟨dst, .fieldAddr s x f, ty, pos, after, g⟩ all l k ⟨e, h⟩ Q = valR C (fieldAddrA C.P s (ev e x) f) dst all l k e h Q := stepV_read _ _ _ _ _ _ rfl
theorem v_field (s : TypeId) (x : Operand) (f : Nat) : stepV C ⟨dst, .field s x f, ty, pos, after, g⟩ all l k ⟨e, h⟩ Q = valR C (if (ev e x).isAggV then fieldA C.P s (ev e x) f else none) dst all l k e h Q := stepV_read _ _ _ _ _ _ rfl
theorem v_indexAddr (t : TypeId) (x ix : Operand) : stepV C ⟨dst, .indexAddr t x ix, ty, pos, after, g⟩ all l k ⟨e, h⟩ Q = valR C (ixAddrA C.P t (ev e x) (ev e ix)) dst all l k e h Q := stepV_read _ _ _ _ _ _ rfl
theorem v_index (t : TypeId) (x ix : Operand) : stepV C ⟨dst, .index t x ix, ty, pos, after, g⟩ all l k ⟨e, h⟩ Q = valR C (ixA C.P t (ev e x) (ev e ix)) dst all l k e h Q := stepV_read _ _ _ _ _ _ rfl
theorem v_extract (x : Operand) (i : Nat) : stepV C ⟨dst, .extract x i, ty, pos, after, g⟩ all l k ⟨e, h⟩ Q = valR C (extA (ev e x) i) dst all l k e h Q := stepV_read _ _ _ _ _ _ rfl
theorem v_build (t : TypeId) (parts : Array (Nat × Operand)) : stepV C ⟨dst, .build t parts, ty, pos, after, g⟩ all l k ⟨e, h⟩ Q = valR C (buildA C.P t (parts.toList.map fun p => (p.1, ev e p.2))) dst all l k e h Q := stepV_read _ _ _ _ _ _ rfl
theorem v_len (args : Array Operand) (ts : Array TypeId) : stepV C ⟨dst, .call ⟨.builtin .len, args, ts⟩, ty, pos, after, g⟩ all l k ⟨e, h⟩ Q = valR C (builtinR C.P .len (args.toList.map (ev e)) ts.toList) dst all l k e h Q := stepV_read _ _ _ _ _ _ rfl
theorem v_min (args : Array Operand) (ts : Array TypeId) : stepV C ⟨dst, .call ⟨.builtin .min, args, ts⟩, ty, pos, after, g⟩ all l k ⟨e, h⟩ Q = valR C (builtinR C.P .min (args.toList.map (ev e)) ts.toList) dst all l k e h Q := stepV_read _ _ _ _ _ _ rfl
theorem v_max (args : Array Operand) (ts : Array TypeId) : stepV C ⟨dst, .call ⟨.builtin .max, args, ts⟩, ty, pos, after, g⟩ all l k ⟨e, h⟩ Q = valR C (builtinR C.P .max (args.toList.map (ev e)) ts.toList) dst all l k e h Q := stepV_read _ _ _ _ _ _ rfl
theorem v_call (f : Operand) (args : Array Operand) (tys : Array TypeId) : stepV C ⟨dst, .call ⟨.value f, args, tys⟩, ty, pos, after, g⟩ all l k ⟨e, h⟩ Q = callA C (calA (ev e f) (args.toList.map (ev e))) dst all l k e h Q := rfl
theorem v_alloc (t : TypeId) : stepV C ⟨dst, .alloc t, ty, pos, after, g⟩ all l k ⟨e, h⟩ Q = outR C ((zeroT C.P t).map fun ps => .one (.ptr h.length 0 0) (h ++ [some ps])) dst all l k e Q := stepV_eff _ _ _ _ _ _ rfl
theorem v_box (t : TypeId) (x : Operand) : stepV C ⟨dst, .box t x, ty, pos, after, g⟩ all l k ⟨e, h⟩ Q = outR C ((rowOf (ev e x)).map fun ps => .one (.ptr h.length 0 0) (h ++ [some ps])) dst all l k e Q := stepV_eff _ _ _ _ _ _ rfl
theorem v_store (t : TypeId) (a x : Operand) : stepV C ⟨dst, .store t a x, ty, pos, after, g⟩ all l k ⟨e, h⟩ Q = outR C ((storeA C.P h t (ev e a) (ev e x)).map fun h2 => .one (.tup []) h2) dst all l k e Q := stepV_eff _ _ _ _ _ _ rfl
theorem v_makeSlice (t : TypeId) (n c : Operand) : stepV C ⟨dst, .makeSlice t n c, ty, pos, after, g⟩ all l k ⟨e, h⟩ Q = outR C (makeSliceA C.P h t (ev e n) (ev e c)) dst all l k e Q := stepV_eff _ _ _ _ _ _ rfl
theorem v_buildSlice (t : TypeId) (n : Nat) (parts : Array (Nat × Operand)) : stepV C ⟨dst, .buildSlice t n parts, ty, pos, after, g⟩ all l k ⟨e, h⟩ Q = outR C (buildSliceA C.P h t n (parts.toList.map fun (i, x) => (i, ev e x))) dst all l k e Q := stepV_eff _ _ _ _ _ _ rfl
theorem v_append (s x : Operand) (t xT : TypeId) : stepV C ⟨dst, .call ⟨.builtin .append, #[s, x], #[t, xT]⟩, ty, pos, after, g⟩ all l k ⟨e, h⟩ Q = outR C (((appendA C.P h t xT (ev e s) (ev e x)).or (appendKeepA C.P h t xT (ev e s) (ev e x))).or (appendLA C.P h t xT (ev e s) (ev e x))) dst all l k e Q := stepV_eff _ _ _ _ _ _ rfl
theorem v_copy (s x : Operand) (t xT : TypeId) : stepV C ⟨dst, .call ⟨.builtin .copy, #[s, x], #[t, xT]⟩, ty, pos, after, g⟩ all l k ⟨e, h⟩ Q = outR C (copyA C.P h t (ev e s) (ev e x)) dst all l k e Q := stepV_eff _ _ _ _ _ _ rfl
end
end Go.Ax

namespace Go.Ax
def stE (h : List Blk) (b : Nat) (pre : List AV) : Option (List AV) → Option (List Blk)
  | some qs => some (h.set b (some (pre ++ qs)))
  | none => none
def stD (g : Bool) (h : List Blk) (b i : Nat) (x : AV) : Option (List AV) → Option (List AV) → Option (List Blk)
  | some pre, some qs => stE h b pre (if g = true then rowPut qs i x else rowSet qs i x)
  | _, _ => none
def stC (g : Bool) (h : List Blk) (b base i : Nat) (x : AV) : Option (List AV) → Option (List Blk)
  | some ps => stD g h b i x (rowTake ps base) (rowDrop ps base)
  | none => none
def stK (h : List Blk) (b base i : Nat) (x : AV) : Option Nat → Option Bool → Option (List Blk)
  | some s, some g => if x.size = s ∧ x.isAggV = g then stC g h b base i x (row h b) else none
  | _, _ => none
def ldD (i : Nat) : Option (List AV) → Option AV
  | some qs => rowCell qs i
  | none => none
def ldC (base i : Nat) : Option (List AV) → Option AV
  | some ps => ldD i (rowDrop ps base)
  | none => none
def laD (ints : Bool) (s i : Nat) : Option (List AV) → Option AV
  | some qs => rowAgg ints qs i s
  | none => none
def laC (ints : Bool) (s base i : Nat) : Option (List AV) → Option AV
  | some ps => laD ints s i (rowDrop ps base)
  | none => none
def ldK (h : List Blk) (b base i : Nat) (ints : Bool) : Option Nat → Option Bool → Option AV
  | some _, some false => ldC base i (row h b)
  | some s, some true => laC ints s base i (row h b)
  | _, _ => none

def envAll (e : Env) : List (Nat × AV) → Prop
  | [] => True
  | (i, v) :: L => get e i = v ∧ envAll e L
theorem envAll_nil (e : Env) : envAll e [] = True := rfl
theorem envAll_cons (e : Env) (i : Nat) (v : AV) (L : List (Nat × AV)) : envAll e ((i, v) :: L) = (get e i = v ∧ envAll e L) := rfl
theorem envAll_mem {e : Env} : ∀ {L : List (Nat × AV)}, envAll e L → ∀ p ∈ L, get e p.1 = p.2
  | (i, v) :: L, h, p, hp => by
    rcases List.mem_cons.1 hp with rfl | hp
    · exact h.1
    · exact envAll_mem h.2 p hp
theorem weak_all {C : Cfg} {e : Env} {h : List Blk} {L : List (Nat × AV)} (hL : envAll e L) : Weak C ⟨e, h⟩ ⟨envL L, h⟩ := weak_env (envAll_mem hL)
theorem thenK_normal (f : St → Prop) (κ : Exit → St → Prop) (σ : St) : thenK f κ .normal σ = f σ := rfl
theorem thenK_exit (f : St → Prop) (κ : Exit → St → Prop) (i : Nat) (σ : St) : thenK f κ (.exit i) σ = κ (.exit i) σ := rfl
theorem thenK_ret (f : St → Prop) (κ : Exit → St → Prop) (σ : St) : thenK f κ .ret σ = κ .ret σ := rfl

section
variable {P : Program} {h : List Blk} {b base i : Nat} {x : AV} {t : TypeId}
theorem stE_some (pre qs : List AV) : stE h b pre (some qs) = some (h.set b (some (pre ++ qs))) := rfl
theorem stE_guard (c : Prop) [Decidable c] (pre : List AV) (q : Option (List AV)) : stE h b pre (oguard c q) = oguard c (stE h b pre q) := by unfold oguard; split <;> rfl
theorem stD_cell (pre qs : List AV) : stD false h b i x (some pre) (some qs) = stE h b pre (rowSet qs i x) := rfl
theorem stD_agg (pre qs : List AV) : stD true h b i x (some pre) (some qs) = stE h b pre (rowPut qs i x) := rfl
theorem stC_some (g : Bool) (ps : List AV) : stC g h b base i x (some ps) = stD g h b i x (rowTake ps base) (rowDrop ps base) := rfl
theorem stK_some (s : Nat) (g : Bool) : stK h b base i x (some s) (some g) = if x.size = s ∧ x.isAggV = g then stC g h b base i x (row h b) else none := rfl
theorem storeA_ptr : storeA P h t (.ptr b base i) x = stK h b base i x (szT P t) (aggT P t) := by
  unfold storeA stK
  cases szT P t <;> cases aggT P t <;> cases hr : row h b <;> simp only [hr, stC, stD, stE, ite_self]
  rename_i s g ps
  split
  · cases rowTake ps base <;> cases hd : rowDrop ps base <;> simp only [Option.bind_none, Option.bind_some]
    rename_i qs
    split <;> rename_i hg
    · cases rowPut qs i x <;> rfl
    · cases rowSet qs i x <;> rfl
  · rfl
theorem ldD_some (qs : List AV) : ldD i (some qs) = rowCell qs i := rfl
theorem ldC_some (ps : List AV) : ldC base i (some ps) = ldD i (rowDrop ps base) := rfl
theorem laD_some (ints : Bool) (s : Nat) (qs : List AV) : laD ints s i (some qs) = rowAgg ints qs i s := rfl
theorem laC_some (ints : Bool) (s : Nat) (ps : List AV) : laC ints s base i (some ps) = laD ints s i (rowDrop ps base) := rfl
theorem ldK_cell (ints : Bool) (s : Nat) : ldK h b base i ints (some s) (some false) = ldC base i (row h b) := rfl
theorem ldK_agg (ints : Bool) (s : Nat) : ldK h b base i ints (some s) (some true) = laC ints s base i (row h b) := rfl
theorem loadA_ptr : loadA P h t (.ptr b base i) = ldK h b base i (intsT P t) (szT P t) (aggT P t) := by
  unfold loadA ldK loadCell loadAgg
  cases szT P t <;> cases hg : aggT P t <;> simp only
  rename_i s g
  cases g <;> simp only <;> cases hr : row h b <;> simp only [ldC, laC, Option.bind_none, Option.bind_some]
  · rename_i ps; cases rowDrop ps base <;> rfl
  · rename_i ps; cases rowDrop ps base <;> rfl
theorem loadA_rop : loadA P h t (.rop x) = match szT P t, aggT P t with
  | some _, some false => if x.one then some x else none
  | some s, some true => if x.isAggV ∧ x.size = s then some x else none
  | _, _ => none := rfl
end
end Go.Ax

namespace Go.Ax

def kill (h : List Blk) : List Nat → List Blk
  | [] => h
  | b :: B => kill (h.set b none) B
def restore (h : List Blk) : List Nat → List Blk → List Blk
  | [], hr => hr
  | b :: B, hr => restore h B (hr.set b (h.getD b none))

theorem kill_len : ∀ (B : List Nat) (h : List Blk), (kill h B).length = h.length
  | [], h => rfl
  | b :: B, h => by simp [kill, kill_len B]
theorem kill_out : ∀ (B : List Nat) (h : List Blk) (b : Nat), b ∉ B → (kill h B)[b]? = h[b]?
  | [], h, b, _ => rfl
  | c :: B, h, b, hb => by
    simp only [List.mem_cons, not_or] at hb
    rw [kill, kill_out B _ b hb.2, List.getElem?_set_ne (fun e => hb.1 e.symm)]
theorem kill_in : ∀ (B : List Nat) (h : List Blk) (b : Nat), b ∈ B → ∀ ps, (kill h B)[b]? ≠ some (some ps)
  | [], h, b, hb => by simp at hb
  | c :: B, h, b, hb => by
    intro ps
    by_cases hB : b ∈ B
    · exact kill_in B _ b hB ps
    · rw [kill, kill_out B _ b hB]
      have : b = c := by simpa [hB] using hb
      subst this
      rw [List.getElem?_set]
      simp only [if_true]
      split <;> simp
theorem restore_len : ∀ (B : List Nat) (h hr : List Blk), (restore h B hr).length = hr.length
  | [], h, hr => rfl
  | b :: B, h, hr => by simp [restore, restore_len B]
theorem restore_out : ∀ (B : List Nat) (h hr : List Blk) (b : Nat), b ∉ B → (restore h B hr)[b]? = hr[b]?
  | [], h, hr, b, _ => rfl
  | c :: B, h, hr, b, hb => by
    simp only [List.mem_cons, not_or] at hb
    rw [restore, restore_out B h _ b hb.2, List.getElem?_set_ne (fun e => hb.1 e.symm)]
theorem restore_in : ∀ (B : List Nat) (h hr : List Blk) (b : Nat), b ∈ B → b < hr.length → (restore h B hr)[b]? = some (h.getD b none)
  | [], h, hr, b, hb, _ => by simp at hb
  | c :: B, h, hr, b, hb, hl => by
    by_cases hB : b ∈ B
    · exact restore_in B h _ b hB (by simpa using hl)
    · rw [restore, restore_out B h _ b hB]
      have : b = c := by simpa [hB] using hb
      subst this
      rw [List.getElem?_set]
      simp [hl]

mutual
def AV.noRo : AV → Bool
  | .agg ps => noRoL ps
  | .tup ps => noRoL ps
  | .lst _ es => noRoL es
  | .fn _ a b => noRoL a && noRoL b
  | .roI .. | .roL .. | .rop _ => false
  | _ => true
def noRoL : List AV → Bool
  | [] => true
  | p :: ps => p.noRo && noRoL ps
end
def noRoH (h : List Blk) : Bool := h.all fun b => match b with | some ps => noRoL ps | none => true

section
variable {X X' : Nat → Prop} {w : World}
mutual
theorem rel_noRo : ∀ (p : AV) (ρ : List (Option Nat)) (cs : List Value), p.noRo = true → AV.rel X w ρ p cs → AV.rel X' w ρ p cs
  | .v x, ρ, cs, _, h => by simpa only [AV.rel] using h
  | .arr n k l, ρ, cs, _, h => by simpa only [AV.rel] using h
  | .agg ps, ρ, cs, hn, h => by simp only [AV.rel] at h ⊢; simp only [AV.noRo] at hn; exact relAll_noRo ps ρ cs hn h
  | .tup ps, ρ, cs, _, h => by simp only [AV.rel] at h
  | .ptr b base i, ρ, cs, _, h => by simpa only [AV.rel] using h
  | .sl b base sz off len cap, ρ, cs, _, h => by simpa only [AV.rel] using h
  | .roI .., _, _, hn, _ => by simp [AV.noRo] at hn
  | .roL .., _, _, hn, _ => by simp [AV.noRo] at hn
  | .rop .., _, _, hn, _ => by simp [AV.noRo] at hn
  | .lst sz es, ρ, cs, hn, h => by simp only [AV.rel] at h ⊢; simp only [AV.noRo] at hn; exact ⟨relAll_noRo es [] cs hn h.1, h.2⟩
  | .fn f a b, ρ, cs, hn, h => by
    simp only [AV.noRo, Bool.and_eq_true] at hn
    simp only [AV.rel] at h ⊢
    obtain ⟨f1, c1, h1, h2, h3⟩ := h
    exact ⟨f1, c1, h1, relVs_noRo a ρ _ hn.1 h2, relVs_noRo b ρ _ hn.2 h3⟩
  | .any, ρ, cs, _, h => by simpa only [AV.rel] using h
theorem relAll_noRo : ∀ (ps : List AV) (ρ : List (Option Nat)) (cs : List Value), noRoL ps = true → relAll X w ρ ps cs → relAll X' w ρ ps cs
  | [], ρ, cs, _, h => by simpa only [relAll] using h
  | p :: ps, ρ, cs, hn, h => by
    simp only [noRoL, Bool.and_eq_true] at hn
    simp only [relAll] at h ⊢
    obtain ⟨a, b, h0, h1, h2⟩ := h
    exact ⟨a, b, h0, rel_noRo p ρ a hn.1 h1, relAll_noRo ps ρ b hn.2 h2⟩
theorem relV_noRo : ∀ (p : AV) (ρ : List (Option Nat)) (v : Value), p.noRo = true → AV.relV X w ρ p v → AV.relV X' w ρ p v
  | .any, ρ, v, _, h => by simp only [AV.relV]
  | .arr n k l, ρ, v, _, h => by simpa only [AV.relV] using h
  | .agg ps, ρ, v, hn, h => by
    simp only [AV.noRo] at hn
    simp only [AV.relV] at h ⊢
    obtain ⟨cs, h1, h2⟩ := h
    exact ⟨cs, h1, relAll_noRo ps ρ _ hn h2⟩
  | .tup ps, ρ, v, hn, h => by
    simp only [AV.noRo] at hn
    simp only [AV.relV] at h ⊢
    obtain ⟨cs, h1, h2⟩ := h
    exact ⟨cs, h1, relVs_noRo ps ρ _ hn h2⟩
  | .v x, ρ, v, hn, h => by simp only [AV.relV] at h ⊢; exact rel_noRo (.v x) ρ _ hn h
  | .ptr b base i, ρ, v, hn, h => by simp only [AV.relV] at h ⊢; exact rel_noRo (.ptr b base i) ρ _ hn h
  | .sl b base sz off len cap, ρ, v, hn, h => by simp only [AV.relV] at h ⊢; exact rel_noRo (.sl b base sz off len cap) ρ _ hn h
  | .roI .., _, _, hn, _ => by simp [AV.noRo] at hn
  | .roL .., _, _, hn, _ => by simp [AV.noRo] at hn
  | .rop .., _, _, hn, _ => by simp [AV.noRo] at hn
  | .lst sz es, ρ, v, hn, h => by simp only [AV.relV] at h ⊢; exact rel_noRo (.lst sz es) ρ _ hn h
  | .fn f a b, ρ, v, hn, h => by simp only [AV.relV] at h ⊢; exact rel_noRo (.fn f a b) ρ _ hn h
theorem relVs_noRo : ∀ (ps : List AV) (ρ : List (Option Nat)) (vs : List Value), noRoL ps = true → relVs X w ρ ps vs → relVs X' w ρ ps vs
  | [], ρ, vs, _, h => by simpa only [relVs] using h
  | p :: ps, ρ, vs, hn, h => by
    simp only [noRoL, Bool.and_eq_true] at hn
    simp only [relVs] at h ⊢
    obtain ⟨a, b, h0, h1, h2⟩ := h
    exact ⟨a, b, h0, relV_noRo p ρ a hn.1 h1, relVs_noRo ps ρ b hn.2 h2⟩
end
end

def Frz (h : List Blk) (B : List Nat) (x y : AV) : Prop :=
  ∀ (X X' : Nat → Prop) (w : World) (ρ : List (Option Nat)) (v : Value), HRel X ρ h w → (∀ r, X' r → X r ∧ ∀ b ∈ B, ρ[b]? ≠ some (some r)) → AV.relV X w ρ x v → AV.relV X' w ρ y v

theorem Frz.same {h : List Blk} {B : List Nat} (x : AV) : Frz h B x x := fun _ _ _ _ _ _ hx hv => relV_keep Keep.refl (fun r _ hr => (hx r hr).1) x _ _ _ (fun _ _ h => h) hv

theorem Frz.nil {h : List Blk} {B : List Nat} (k : IntKind) : Frz h B (.v (.slice none 0 0)) (.roI k []) := by
  intro X X' w ρ v _ _ hv
  simp only [AV.relV, AV.rel] at hv ⊢
  have := hv.1
  injection this with this _
  subst this
  exact .inr ⟨rfl, none, rfl⟩

theorem Frz.ints {h : List Blk} {B : List Nat} {b base off len cap : Nat} {k : IntKind} {l : List Int} (hb : b ∈ B) (he : intsOf h (.sl b base 1 off len cap) = some (k, l)) :
    Frz h B (.sl b base 1 off len cap) (.roI k l) := by
  intro X X' w ρ v hh hx hv
  unfold intsOf at he
  simp only [if_true] at he
  obtain ⟨ps, hr, he⟩ := Option.bind_eq_some_iff.1 he
  obtain ⟨qs, hd, he⟩ := Option.bind_eq_some_iff.1 he
  split at he
  · rename_i n k' l' rest
    obtain ⟨hi, he⟩ := oguard_some he
    cases he
    simp only [AV.relV, AV.rel] at hv ⊢
    have hrow := hh.blk b ps (row_some hr)
    rcases hv with ⟨r, o, hρ, hv, hroom, hcap, hlen⟩ | ⟨hρ, hv, h1, h2⟩
    · rw [hρ] at hrow
      obtain ⟨c, e, fz, hc, hz, cs, post, hl, hp⟩ := hrow
      have hq := rowDrop_rel hp hd
      simp only [relAll] at hq
      obtain ⟨a1, b1, heq, ha, _⟩ := hq
      simp only [AV.rel] at ha
      obtain ⟨rfl, hn⟩ := ha
      have hll : ((l'.drop off).take len).length = len := by simp; omega
      left
      rw [hll]
      refine ⟨⟨r, o, none⟩, cap, hv, rfl, fun hX => (hx r hX).2 b hb hρ, ?_, hlen⟩
      have hbase : base ≤ cs.length := rowDrop_le hp hd
      have hcl : c.toList = cs.take base ++ ((l'.map (Value.int k)) ++ b1) ++ post := by rw [hl, ← heq, List.take_append_drop]
      rcases hcap with hcap | ⟨rfl, _⟩
      · have hl0 : len = 0 := by omega
        subst hl0
        obtain ⟨c2, e2, fz2, hc2, ho⟩ := hroom
        rw [hc] at hc2
        cases hc2
        exact ⟨c, e, fz, hc, c.toList.take o, c.toList.drop o, by simp, by simp; omega⟩
      · refine ⟨c, e, fz, hc, cs.take base ++ ((l'.take off).map (Value.int k)), ((l'.drop (off + len)).map (Value.int k)) ++ b1 ++ post, ?_, ?_⟩
        · rw [hcl]
          have : l' = l'.take off ++ (l'.drop off).take len ++ l'.drop (off + len) := by
            rw [List.append_assoc, ← List.drop_drop, List.take_append_drop, List.take_append_drop]
          conv => lhs; rw [this]
          simp
        · simp; omega
    · right
      subst h1 h2
      exact ⟨by simp, none, hv⟩
  · cases he

theorem ACall.freeze {P : Program} {f : FuncId} {args args' : List AV} {h : List Blk} {κ κ' : AV → List Blk → Prop} (B : List Nat) (hc : ACall P f args' (kill h B) κ')
    (ha : ∀ (X X' : Nat → Prop) (w : World) (ρ : List (Option Nat)) (vs : List Value), HRel X ρ h w → (∀ r, X' r → X r ∧ ∀ b ∈ B, ρ[b]? ≠ some (some r)) → relVs X w ρ args vs → relVs X' w ρ args' vs)
    (hlive : ∀ b ∈ B, live h b) (hκ : ∀ v hr, κ' v hr → v.noRo = true ∧ noRoH hr = true ∧ κ v (restore h B hr)) : ACall P f args h κ := by
  refine ⟨hc.1, ?_⟩
  intro E w ρ vs h1 h2 h3
  let E' : Nat → Prop := fun r => E r ∧ ∀ b ∈ B, ρ[b]? ≠ some (some r)
  have hownk : ∀ r, own ρ (kill h B) r → own ρ h r ∧ ∀ b ∈ B, ρ[b]? ≠ some (some r) := by
    rintro r ⟨b, hb, ps, hp⟩
    have hbB : b ∉ B := fun hbB => kill_in B h b hbB ps hp
    rw [kill_out B h b hbB] at hp
    refine ⟨⟨b, hb, ps, hp⟩, ?_⟩
    intro b' hb' he
    exact hbB (h2.inj b b' r hb he ⟨ps, hp⟩ (hlive b' hb') ▸ hb')
  have hX : ∀ r, XOf E' ρ (kill h B) r → XOf E ρ h r ∧ ∀ b ∈ B, ρ[b]? ≠ some (some r) := by
    rintro r (hr | hr)
    · exact ⟨.inl hr.1, hr.2⟩
    · exact ⟨.inr (hownk r hr).1, (hownk r hr).2⟩
  have hh : HRel (XOf E' ρ (kill h B)) ρ (kill h B) w := by
    refine ⟨by rw [kill_len]; exact h2.len, ?_, ?_⟩
    · intro b ps hp
      have hbB : b ∉ B := fun hbB => kill_in B h b hbB ps hp
      rw [kill_out B h b hbB] at hp
      exact (h2.blk b ps hp).keep Keep.refl (fun r _ hr => (hX r hr).1) (fun _ _ h => h) (fun _ _ => rfl)
    · rintro b b' r hb hb' ⟨ps, hp⟩ ⟨ps', hp'⟩
      have hbB : b ∉ B := fun hbB => kill_in B h b hbB ps hp
      have hbB' : b' ∉ B := fun hbB => kill_in B h b' hbB ps' hp'
      rw [kill_out B h _ hbB] at hp
      rw [kill_out B h _ hbB'] at hp'
      exact h2.inj b b' r hb hb' ⟨ps, hp⟩ ⟨ps', hp'⟩
  refine (hc.2 E' w ρ vs (ha _ _ w ρ _ h2 hX h1) hh (fun r hr => ⟨(h3 r hr.1).1, fun h4 => (h3 r hr.1).2 (hownk r h4).1⟩)).mono ?_
  rintro en w' ⟨av, v, ρ', hr, rfl, hk, hv, hh', hext, how, hfr⟩
  obtain ⟨n1, n2, n3⟩ := hκ av hr hk
  have hlt : ∀ b ∈ B, b < hr.length := by
    intro b hb
    obtain ⟨ps, hp⟩ := hlive b hb
    have hbl : b < ρ.length := by rw [h2.len]; exact (List.getElem?_eq_some_iff.1 hp).1
    have := hext b _ (List.getElem?_eq_getElem hbl)
    have := (List.getElem?_eq_some_iff.1 this).1
    rw [hh'.len] at this
    exact this
  have hrow : ∀ b ∈ B, ∀ ps, h[b]? = some (some ps) → (restore h B hr)[b]? = some (some ps) := by
    intro b hb ps hp
    rw [restore_in B h hr b hb (hlt b hb), List.getD_eq_getElem?_getD, hp]; rfl
  have hownr : ∀ r, own ρ' (restore h B hr) r → own ρ' hr r ∨ ∃ b ∈ B, ρ[b]? = some (some r) := by
    rintro r ⟨b, hb, ps, hp⟩
    by_cases hbB : b ∈ B
    · right
      refine ⟨b, hbB, ?_⟩
      obtain ⟨ps', hp'⟩ := hlive b hbB
      have hbl : b < ρ.length := by rw [h2.len]; exact (List.getElem?_eq_some_iff.1 hp').1
      have he := hext b _ (List.getElem?_eq_getElem hbl)
      rw [hb] at he
      rw [List.getElem?_eq_getElem hbl, ← he]
    · rw [restore_out B h hr b hbB] at hp
      exact .inl ⟨b, hb, ps, hp⟩
  have hB : ∀ b ∈ B, ∀ r, ρ[b]? = some (some r) → own ρ h r := fun b hb r he => ⟨b, he, hlive b hb⟩
  refine ⟨av, v, ρ', restore h B hr, rfl, n3, relV_noRo av ρ' v n1 hv, ?_, hext, ?_, hfr.mono (fun r hr => (hownk r hr).1)⟩
  · refine ⟨by rw [restore_len]; exact hh'.len, ?_, ?_⟩
    · intro b ps hp
      by_cases hbB : b ∈ B
      · obtain ⟨ps0, hp0⟩ := hlive b hbB
        rw [hrow b hbB ps0 hp0] at hp
        cases hp
        have hb0 := h2.blk b ps hp0
        have hbl : b < ρ.length := by rw [h2.len]; exact (List.getElem?_eq_some_iff.1 hp0).1
        have hbe := List.getElem?_eq_getElem hbl
        rw [hext b _ hbe]
        rw [hbe] at hb0
        refine hb0.keep (hfr.mono (fun r hr => ?_) : Frame (XOf E ρ h) w w').keep ?_ hext ?_
        · exact .inr (hownk r hr).1
        · rintro r hrl (hr | hr)
          · exact .inl hr
          · rcases hownr r hr with hr | ⟨b', hb', he⟩
            · rcases how r hr with hr | hr
              · exact .inr (hownk r hr).1
              · omega
            · exact .inr (hB b' hb' r he)
        · intro r hr
          have he : ρ[b]? = some (some r) := by rw [hbe]; exact congrArg some (by simpa using hr)
          exact hfr.same r (h2.own_lt (hB b hbB r he)) (fun ho => (hownk r ho).2 b hbB he)
      · rw [restore_out B h hr b hbB] at hp
        have hb0 := hh'.blk b ps hp
        have hn : noRoL ps = true := by
          have := (List.all_eq_true.1 n2) (some ps) (List.mem_of_getElem? hp)
          simpa using this
        unfold BRel at hb0 ⊢
        split at hb0
        · obtain ⟨c, e, fz, hc1, hz, cs, post, hl, hp1⟩ := hb0
          exact ⟨c, e, fz, hc1, hz, cs, post, hl, relAll_noRo ps ρ' cs hn hp1⟩
        · exact relAll_noRo ps ρ' [] hn hb0
        · exact hb0
    · rintro b b' r hb hb' ⟨ps, hp⟩ ⟨ps', hp'⟩
      have back : ∀ c, c ∈ B → ρ'[c]? = some (some r) → ρ[c]? = some (some r) := by
        intro c hcB hc1
        obtain ⟨q, hq⟩ := hlive c hcB
        have hcl : c < ρ.length := by rw [h2.len]; exact (List.getElem?_eq_some_iff.1 hq).1
        have he := hext c _ (List.getElem?_eq_getElem hcl)
        rw [hc1] at he
        rw [List.getElem?_eq_getElem hcl, ← he]
      have cross : ∀ c c', c ∈ B → c' ∉ B → ρ'[c]? = some (some r) → ρ'[c']? = some (some r) → ∀ q, (restore h B hr)[c']? = some (some q) → False := by
        intro c c' hcB hcB' hc1 hc2 q hq
        rw [restore_out B h hr c' hcB'] at hq
        have hcr := back c hcB hc1
        rcases how r ⟨c', hc2, q, hq⟩ with ho | ho
        · exact (hownk r ho).2 c hcB hcr
        · have := h2.own_lt (hB c hcB r hcr)
          omega
      by_cases hbB : b ∈ B <;> by_cases hbB' : b' ∈ B
      · exact h2.inj b b' r (back b hbB hb) (back b' hbB' hb') (hlive b hbB) (hlive b' hbB')
      · exact (cross b b' hbB hbB' hb hb' ps' hp').elim
      · exact (cross b' b hbB' hbB hb' hb ps hp).elim
      · rw [restore_out B h hr b hbB] at hp
        rw [restore_out B h hr b' hbB'] at hp'
        exact hh'.inj b b' r hb hb' ⟨ps, hp⟩ ⟨ps', hp'⟩
  · intro r hr
    rcases hownr r hr with hr | ⟨b, hb, he⟩
    · rcases how r hr with hr | hr
      · exact .inl (hownk r hr).1
      · exact .inr hr
    · exact .inl (hB b hb r he)
end Go.Ax

namespace Go.Ax

theorem ACall.weak {C : Cfg} {f : FuncId} {args : List AV} {h : List Blk} {κ κ' : AV → List Blk → Prop} (hk : h.length = C.k) (hc : ACall C.P f args h κ)
    (hw : ∀ v h', κ v h' → ∃ v2 h2, Weak C ⟨envL [(0, v)], h'⟩ ⟨envL [(0, v2)], h2⟩ ∧ κ' v2 h2) : ACall C.P f args h κ' := by
  refine ⟨hc.1, ?_⟩
  intro E w ρ vs h1 h2 h3
  refine (hc.2 E w ρ vs h1 h2 h3).mono ?_
  rintro en w' ⟨av, v, ρ', h', rfl, hκ, hv, hh, hext, how, hfr⟩
  obtain ⟨v2, h2', hW, hκ2⟩ := hw av h' hκ
  have hrep : Ok E w (own ρ h) 1 ρ ⟨envL [(0, av)], h'⟩ ⟨#[v], []⟩ w' := by
    refine ⟨ρ', ⟨?_, rfl, Marks.none rfl, hh, hfr, how, fun r hr => ⟨(h3 r hr).1, fun h4 => (how r h4).elim (h3 r hr).2 (fun h5 => by have := (h3 r hr).1; omega)⟩, hext⟩⟩
    intro i
    match i with
    | 0 => exact hv
    | i + 1 =>
      have : get (envL [(0, av)]) (i + 1) = .any := rfl
      simp only [this, AV.relV]
  obtain ⟨ρ2, hr2⟩ := hW E w (own ρ h) 1 ρ ⟨#[v], []⟩ w' (by rw [h2.len]; exact hk) hrep
  exact ⟨v2, v, ρ2, h2', rfl, hκ2, hr2.tm 0, hr2.hp, hr2.ex, hr2.ow, hr2.fr⟩

def gcMap (B : List Nat) (n : Nat) (b : Nat) : Nat := B.getD b n
theorem weak_gc' {C : Cfg} {e : Env} {h h' : List Blk} {L : List (Nat × AV)} (B : List Nat) (hn : B.Nodup) (hlt : ∀ b ∈ B, b < h.length)
    (hk : (List.range C.k).all (fun i => B[i]? == some i) = true)
    (hb : B.map (fun b => h[b]?) = h'.map (fun x => some (renB (gcMap B h.length) x)))
    (hL : envAll e (L.map fun p => (p.1, p.2.ren (gcMap B h.length)))) : Weak C ⟨e, h⟩ ⟨envL L, h'⟩ := by
  have hlen : h'.length = B.length := by simpa using (congrArg List.length hb).symm
  have hk2 : ∀ i, i < C.k → B[i]? = some i := by
    intro i hi
    simpa using (List.all_eq_true.1 hk) i (List.mem_range.2 hi)
  refine weak_gc B hn hlt hlen ⟨?_, ?_⟩ ?_ ?_
  · rcases Nat.eq_zero_or_pos C.k with h0 | h0
    · omega
    · have := (List.getElem?_eq_some_iff.1 (hk2 (C.k - 1) (by omega))).1; omega
  · intro i hi
    rw [List.getD_eq_getElem?_getD, hk2 i hi]; rfl
  · intro i hi
    right
    have := congrArg (fun l : List (Option Blk) => l[i]?) hb
    simp only [List.getElem?_map, List.getElem?_eq_getElem hi, List.getElem?_eq_getElem (hlen ▸ hi : i < h'.length), Option.map_some, Option.some.injEq] at this
    rw [List.getD_eq_getElem?_getD, List.getElem?_eq_getElem hi, Option.getD_some, this, List.getElem?_eq_getElem (hlen ▸ hi : i < h'.length)]
    rfl
  · intro p hp
    have := envAll_mem hL (p.1, p.2.ren (gcMap B h.length)) (List.mem_map.2 ⟨p, hp, rfl⟩)
    exact this

theorem weak_nil {C : Cfg} {e : Env} {h : List Blk} {b : Nat} (pre post : List AV) (k : IntKind) (hb : h[b]? = some (some (pre ++ .v (.slice none 0 0) :: post))) :
    Weak C ⟨e, h⟩ ⟨e, h.set b (some (pre ++ .sl h.length 0 1 0 0 0 :: post)) ++ [some [.arr 0 k []]]⟩ := by
  rintro E w0 F n r0 a w _ ⟨ρ, hr⟩
  have hbl := (List.getElem?_eq_some_iff.1 hb).1
  have hlen := hr.hp.len
  simp only at hlen
  have hlv : ∀ c, c < h.length → (live (h.set b (some (pre ++ .sl h.length 0 1 0 0 0 :: post)) ++ [some [.arr 0 k []]]) c ↔ live h c) := by
    intro c hc
    rw [live_snoc (by simpa using hc)]
    exact live_set hb c
  have hown : ∀ r, own (ρ ++ [none]) (h.set b (some (pre ++ .sl h.length 0 1 0 0 0 :: post)) ++ [some [.arr 0 k []]]) r → own ρ h r := by
    rintro r ⟨c, hc, hl⟩
    rcases Nat.lt_or_ge c ρ.length with h1 | h1
    · rw [List.getElem?_append_left h1] at hc
      exact ⟨c, hc, (hlv c (by omega)).1 hl⟩
    · rw [List.getElem?_append_right h1] at hc
      rcases Nat.eq_zero_or_pos (c - ρ.length) with h0 | h0
      · rw [h0] at hc; simp at hc
      · rw [List.getElem?_eq_none (by simp; omega)] at hc; cases hc
  have hX : ∀ r, r < w.heap.size → XOf E (ρ ++ [none]) (h.set b (some (pre ++ .sl h.length 0 1 0 0 0 :: post)) ++ [some [.arr 0 k []]]) r → XOf E ρ h r := fun r _ h1 => h1.imp id (hown r)
  have hext : ∀ (c : Nat) o, ρ[c]? = some o → (ρ ++ [none])[c]? = some o := fun c o h => get_snoc_old h
  have hnew : (ρ ++ [(none : Option Nat)])[h.length]? = some none := by rw [← hlen]; simp
  refine ⟨ρ ++ [none], ⟨fun i => relV_keep Keep.refl hX _ ρ _ _ hext (hr.tm i), hr.sz, hr.df, ⟨by simp [hlen], ?_, ?_⟩, hr.fr, fun r h1 => hr.ow r (hown r h1), fun r h1 => ⟨(hr.el r h1).1, fun h2 => (hr.el r h1).2 (hown r h2)⟩, fun c o h => hext c o (hr.ex c o h)⟩⟩
  · intro c ps hc
    rcases Nat.lt_or_ge c h.length with h1 | h1
    · rw [List.getElem?_append_left (by simpa using h1)] at hc
      rw [List.getElem?_append_left (by omega)]
      by_cases hbc : b = c
      · subst hbc
        rw [List.getElem?_set_self hbl] at hc
        cases hc
        have h2 := (hr.hp.blk b _ hb).keep Keep.refl hX hext (fun _ _ => rfl)
        have key : ∀ cs, relAll (XOf E (ρ ++ [none]) (h.set b (some (pre ++ .sl h.length 0 1 0 0 0 :: post)) ++ [some [.arr 0 k []]])) w (ρ ++ [none]) (pre ++ .v (.slice none 0 0) :: post) cs →
            relAll (XOf E (ρ ++ [none]) (h.set b (some (pre ++ .sl h.length 0 1 0 0 0 :: post)) ++ [some [.arr 0 k []]])) w (ρ ++ [none]) (pre ++ .sl h.length 0 1 0 0 0 :: post) cs := by
          intro cs hcs
          rw [relAll_append] at hcs ⊢
          obtain ⟨x, y, e1, e2, e3⟩ := hcs
          refine ⟨x, y, e1, e2, ?_⟩
          simp only [relAll] at e3 ⊢
          obtain ⟨p, q, e4, e5, e6⟩ := e3
          refine ⟨p, q, e4, ?_, e6⟩
          simp only [AV.rel] at e5 ⊢
          exact .inr ⟨hnew, e5.1, by simp⟩
        unfold BRel at h2 ⊢
        split at h2
        · obtain ⟨c, e, fz, h5, h6, cs, pst, h7, h8⟩ := h2
          exact ⟨c, e, fz, h5, h6, cs, pst, h7, key cs h8⟩
        · exact key [] h2
        · exact h2.elim
      · rw [List.getElem?_set_ne hbc] at hc
        exact (hr.hp.blk c ps hc).keep Keep.refl hX hext (fun _ _ => rfl)
    · rw [List.getElem?_append_right (by simpa using h1)] at hc
      simp only [List.length_set] at hc
      rcases Nat.eq_zero_or_pos (c - h.length) with h0 | h0
      · have hce : c = h.length := by omega
        subst hce
        simp at hc
        subst hc
        rw [hnew]
        simp [BRel, relAll, AV.rel]
      · rw [List.getElem?_eq_none (by simp; omega)] at hc; cases hc
  · intro c c' r h1 h2 l1 l2
    have hat : ∀ b, (ρ ++ [none])[b]? = some (some r) → b < ρ.length := by
      intro b hb
      obtain ⟨hl, _⟩ := List.getElem?_eq_some_iff.1 hb
      rcases Nat.lt_or_ge b ρ.length with h | h
      · exact h
      · have : b = ρ.length := by simp at hl; omega
        subst this; simp at hb
    have a1 := hat c h1
    have a2 := hat c' h2
    rw [List.getElem?_append_left a1] at h1
    rw [List.getElem?_append_left a2] at h2
    exact hr.hp.inj c c' r h1 h2 ((hlv c (by omega)).1 l1) ((hlv c' (by omega)).1 l2)

theorem weak_nil_slot {C : Cfg} {e e' : Env} {h : List Blk} (i : Nat) (k : IntKind) (hi : get e i = .v (.slice none 0 0)) (he : ∀ j, get e' j = if i = j then .sl h.length 0 1 0 0 0 else get e j) :
    Weak C ⟨e, h⟩ ⟨e', h ++ [some [.arr 0 k []]]⟩ := by
  rintro E w0 F n r0 a w _ ⟨ρ, hr⟩
  have hlen := hr.hp.len
  simp only at hlen
  have hext : ∀ (c : Nat) o, ρ[c]? = some o → (ρ ++ [none])[c]? = some o := fun c o h => get_snoc_old h
  have hown : ∀ r, own (ρ ++ [none]) (h ++ [some [.arr 0 k []]]) r → own ρ h r := by
    intro r ho
    rcases own_snoc hr.hp ho with h1 | h1
    · exact h1
    · cases h1
  have hX : ∀ r, r < w.heap.size → XOf E (ρ ++ [none]) (h ++ [some [.arr 0 k []]]) r → XOf E ρ h r := fun r _ h1 => h1.imp id (hown r)
  have hh : HRel (XOf E (ρ ++ [none]) (h ++ [some [.arr 0 k []]])) (ρ ++ [none]) (h ++ [some [.arr 0 k []]]) w := by
    have h0 := hr.hp.virtual (ps := [.arr 0 k []]) (by simp [relAll, AV.rel])
    exact ⟨h0.len, fun b ps hb => (h0.blk b ps hb).keep Keep.refl hX (fun _ _ h => h) (fun _ _ => rfl), h0.inj⟩
  refine ⟨ρ ++ [none], ⟨fun j => ?_, hr.sz, hr.df, hh, hr.fr, fun r h1 => hr.ow r (hown r h1), fun r h1 => ⟨(hr.el r h1).1, fun h2 => (hr.el r h1).2 (hown r h2)⟩, fun c o h => hext c o (hr.ex c o h)⟩⟩
  simp only
  rw [he j]
  by_cases hij : i = j
  · subst hij
    rw [if_pos rfl]
    have := hr.tm i
    simp only [hi, AV.relV, AV.rel] at this
    simp only [AV.relV, AV.rel]
    refine .inr ⟨by rw [← hlen]; simp, this.1, by simp⟩
  · rw [if_neg hij]
    exact relV_keep Keep.refl hX _ ρ _ _ hext (hr.tm j)

def FrzL (h : List Blk) (B : List Nat) : List AV → List AV → Prop
  | [], [] => True
  | x :: xs, y :: ys => Frz h B x y ∧ FrzL h B xs ys
  | _, _ => False

theorem FrzL.relVs {h : List Blk} {B : List Nat} {X X' : Nat → Prop} {w : World} {ρ : List (Option Nat)} (hh : HRel X ρ h w) (hx : ∀ r, X' r → X r ∧ ∀ b ∈ B, ρ[b]? ≠ some (some r)) :
    ∀ {xs ys : List AV} {vs : List Value}, FrzL h B xs ys → relVs X w ρ xs vs → relVs X' w ρ ys vs
  | [], [], vs, _, hv => by simpa only [Ax.relVs] using hv
  | [], _ :: _, _, h, _ => h.elim
  | _ :: _, [], _, h, _ => h.elim
  | x :: xs, y :: ys, vs, hf, hv => by
    simp only [Ax.relVs] at hv ⊢
    obtain ⟨a, b, h0, h1, h2⟩ := hv
    exact ⟨a, b, h0, hf.1 X X' w ρ a hh hx h1, FrzL.relVs hh hx hf.2 h2⟩

theorem frz_v {h : List Blk} {B : List Nat} {x y : AV} (ho : x.solid = true) (hf : Frz h B x y) {X X' : Nat → Prop} {w : World} {ρ : List (Option Nat)} (hh : HRel X ρ h w)
    (hx : ∀ r, X' r → X r ∧ ∀ b ∈ B, ρ[b]? ≠ some (some r)) {cs : List Value} (hv : AV.rel X w ρ x cs) : ∃ v, cs = [v] ∧ AV.relV X' w ρ y v := by
  have h1 : x.one = true := by unfold AV.solid at ho; split at ho <;> first | cases ho | exact ho
  have hn : x ≠ .any := by rintro rfl; simp [AV.solid] at ho
  have hl := rel_len x ρ cs hv
  rw [one_size h1] at hl
  obtain ⟨v, rfl⟩ := List.length_eq_one_iff.1 hl
  exact ⟨v, rfl, hf X X' w ρ v hh hx (relV_of_rel h1 hv)⟩

def readOnly : AV → Bool
  | .roI .. | .v _ => true
  | _ => false
theorem relV_ro {X : Nat → Prop} {w : World} {ρ ρ' : List (Option Nat)} {y : AV} {v : Value} (hr : readOnly y = true) (h : AV.relV X w ρ y v) : AV.rel X w ρ' y [v] := by
  match y, hr with
  | .roI k l, _ => simpa only [AV.relV, AV.rel] using h
  | .v x, _ => simpa only [AV.relV, AV.rel] using h

theorem ro_one {y : AV} (hr : readOnly y = true) : y.size = 1 ∧ (1 = 1 → y.one = true) := by
  match y, hr with
  | .roI k l, _ => exact ⟨rfl, fun _ => rfl⟩
  | .v x, _ => exact ⟨rfl, fun _ => rfl⟩
theorem Frz.list {h : List Blk} {B : List Nat} {b off len cap : Nat} {ps es es0 : List AV} (hb : b ∈ B) (hrow : row h b = some ps) (ho : ∀ x ∈ ps, x.solid = true)
    (he : off + len ≤ ps.length) (hes : (ps.drop off).take len = es) (hf : FrzL h B es es0) (hr : ∀ y ∈ es0, readOnly y = true) : Frz h B (.sl b 0 1 off len cap) (.roL 1 es0) := by
  intro X X' w ρ v hh hx hv
  have hsz : sizes es0 1 := by
    intro y hy
    exact ro_one (hr y hy)
  simp only [AV.relV, AV.rel] at hv ⊢
  have hbl := hh.blk b ps (row_some hrow)
  have key : ∀ (xs ys : List AV) (cs : List Value), (∀ x ∈ xs, x.solid = true) → (∀ y ∈ ys, readOnly y = true) → FrzL h B xs ys → relAll X w ρ xs cs → relAll X' w [] ys cs ∧ xs.length = ys.length := by
    intro xs
    induction xs with
    | nil =>
      intro ys cs _ _ hf hc
      cases ys with
      | nil => exact ⟨by simpa only [relAll] using hc, rfl⟩
      | cons => exact hf.elim
    | cons x xs ih =>
      intro ys cs h1 h2 hf hc
      cases ys with
      | nil => exact hf.elim
      | cons y ys =>
        simp only [relAll] at hc ⊢
        obtain ⟨a, c, h0, h3, h4⟩ := hc
        have hy := h2 y (by simp)
        have hyo : y.one = true := (ro_one hy).2 rfl
        obtain ⟨v, rfl, hv2⟩ := frz_v (h1 x (by simp)) hf.1 hh hx h3
        obtain ⟨h5, h6⟩ := ih ys c (fun x hx => h1 x (by simp [hx])) (fun y hy => h2 y (by simp [hy])) hf.2 h4
        exact ⟨⟨[v], c, h0, relV_ro hy hv2, h5⟩, by simp [h6]⟩
  rcases hv with ⟨r, o, hρ, hv, hroom, hcap, hlen⟩ | ⟨hρ, hv, h1, h2⟩
  · rw [hρ] at hbl
    obtain ⟨c, e, fz, hc, hz, cs, post, hl, hp⟩ := hbl
    have hsplit : ps = ps.take off ++ (es ++ (ps.drop off).drop len) := by rw [← hes, List.take_append_drop, List.take_append_drop]
    rw [hsplit, relAll_append] at hp
    obtain ⟨a1, b1, h3, h4, h5⟩ := hp
    rw [relAll_append] at h5
    obtain ⟨a2, b2, h6, h7, h8⟩ := h5
    obtain ⟨h9, h10⟩ := key es es0 a2 (fun x hx => ho x (by rw [hsplit]; simp [hx])) hr hf h7
    have hlen2 : es0.length = len := by rw [← h10, ← hes]; simp; omega
    have ha1 : a1.length = off := by
      rw [relAll_len _ _ _ h4]
      have : ∀ l : List AV, (∀ x ∈ l, x.solid = true) → psize l = l.length := by
        intro l
        induction l with
        | nil => intro _; rfl
        | cons x l ih =>
          intro h1
          have hx1 : x.one = true := by have := h1 x (by simp); unfold AV.solid at this; split at this <;> first | cases this | exact this
          simp only [psize, one_size hx1, ih (fun y hy => h1 y (by simp [hy])), List.length_cons]; omega
      rw [this _ (fun x hx => ho x (List.mem_of_mem_take hx))]
      simp; omega
    refine ⟨a2, h9, ?_, hsz⟩
    left
    rw [hlen2]
    refine ⟨⟨r, o, none⟩, cap, hv, rfl, fun hX => (hx r hX).2 b hb hρ, ?_, hlen⟩
    have hcl : c.toList = a1 ++ a2 ++ (b2 ++ post) := by rw [hl, h3, h6]; simp
    rcases hcap with hcap | ⟨rfl, _⟩
    · have hl0 : len = 0 := by omega
      subst hl0
      obtain ⟨c2, e2, fz2, hc2, ho2⟩ := hroom
      rw [hc] at hc2
      cases hc2
      have : a2 = [] := by
        have := relAll_sizes_len h9 hsz
        rw [hlen2] at this
        exact List.eq_nil_of_length_eq_zero (by simpa using this)
      subst this
      exact ⟨c, e, fz, hc, c.toList.take o, c.toList.drop o, by simp, by simp; omega⟩
    · exact ⟨c, e, fz, hc, a1, b2 ++ post, hcl, by simp [ha1]⟩
  · subst h1 h2
    rw [hρ] at hbl
    have h0 : es = [] := by rw [← hes]; simp
    subst h0
    cases es0 with
    | nil => exact ⟨[], by simp only [relAll], .inr ⟨rfl, none, hv⟩, hsz⟩
    | cons => exact hf.elim

theorem ACall.ro {P : Program} {f : FuncId} {args args0 : List AV} {h : List Blk} {R : AV → List Blk → Prop} (spec : ACall P f args0 [] R) (hn : ∀ v h', R v h' → v.noRo = true ∧ noRoH h' = true)
    (ha0 : ∀ g, renL g args0 = args0) (B : List Nat) (hargs : FrzL h B args args0) :
    ACall P f args h fun v h' => ∃ v0 h0, R v0 h0 ∧ v = v0.ren (fun b => h.length + b) ∧ h' = h ++ h0.map (renB fun b => h.length + b) := by
  refine ⟨spec.1, ?_⟩
  intro E w ρ vs h1 h2 h3
  let E' : Nat → Prop := fun r => XOf E ρ h r ∧ ∀ b ∈ B, ρ[b]? ≠ some (some r)
  have hno : ∀ r, ¬ own ([] : List (Option Nat)) [] r := by rintro r ⟨b, hb, _⟩; simp at hb
  have hvs : relVs (XOf E' [] []) w [] args0 vs.toList := by
    have h4 := hargs.relVs (X' := XOf E' [] []) h2 (fun r hr => hr.elim (fun h => h) (fun h => (hno r h).elim)) h1
    refine relVs_ren (ρ := ρ) (f := fun _ => ρ.length) (fun b o hb => by simp at hb) args0 _ ?_
    rw [ha0]
    exact h4
  have hElt : ∀ r, E' r → r < w.heap.size ∧ ¬ own ([] : List (Option Nat)) [] r := fun r hr => ⟨hr.1.elim (fun h => (h3 r h).1) (h2.own_lt), hno r⟩
  refine (spec.2 E' w [] vs hvs ⟨rfl, by simp, by simp⟩ hElt).mono ?_
  rintro en w' ⟨av, v, ρ1, h0, rfl, hR, hv, hh, hext, how, hfr⟩
  obtain ⟨n1, n2⟩ := hn av h0 hR
  have how' : ∀ r, own ρ1 h0 r → w.heap.size ≤ r := fun r hr => (how r hr).resolve_left (hno r)
  have hlen := h2.len
  have hext' : ∀ (b : Nat) o, ρ[b]? = some o → (ρ ++ ρ1)[b]? = some o := fun b o hb => by
    rw [List.getElem?_append_left (List.getElem?_eq_some_iff.1 hb).1]; exact hb
  have hnew : ∀ (b : Nat), (ρ ++ ρ1)[h.length + b]? = ρ1[b]? := by
    intro b; rw [List.getElem?_append_right (by omega)]; congr 1; omega
  have hnewh : ∀ (b : Nat), (h ++ h0.map (renB fun b => h.length + b))[h.length + b]? = (h0[b]?).map (renB fun b => h.length + b) := by
    intro b; rw [List.getElem?_append_right (by omega), List.getElem?_map]; congr 2; omega
  have hliveo : ∀ b, b < h.length → (live (h ++ h0.map (renB fun b => h.length + b)) b ↔ live h b) := by
    intro b hb; unfold live; rw [List.getElem?_append_left hb]
  have hliven : ∀ b, live (h ++ h0.map (renB fun b => h.length + b)) (h.length + b) → live h0 b := by
    rintro b ⟨ps, hp⟩
    rw [hnewh] at hp
    cases hq : h0[b]? with
    | none => rw [hq] at hp; cases hp
    | some x =>
      rw [hq] at hp
      cases x with
      | none => simp [renB] at hp
      | some qs => exact ⟨qs, hq⟩
  have hown : ∀ r, own (ρ ++ ρ1) (h ++ h0.map (renB fun b => h.length + b)) r → own ρ h r ∨ own ρ1 h0 r := by
    rintro r ⟨b, hb, hl⟩
    rcases Nat.lt_or_ge b h.length with h4 | h4
    · left
      rw [List.getElem?_append_left (by omega)] at hb
      exact ⟨b, hb, (hliveo b h4).1 hl⟩
    · right
      obtain ⟨c, rfl⟩ := Nat.exists_eq_add_of_le h4
      rw [hnew] at hb
      exact ⟨c, hb, hliven c hl⟩
  have hX : ∀ r, r < w.heap.size → XOf E (ρ ++ ρ1) (h ++ h0.map (renB fun b => h.length + b)) r → XOf E ρ h r := by
    rintro r hr (h4 | h4)
    · exact .inl h4
    · rcases hown r h4 with h5 | h5
      · exact .inr h5
      · have := how' r h5; omega
  have hren : ∀ (b : Nat) o, ρ1[b]? = some o → (ρ ++ ρ1)[h.length + b]? = some o := fun b o hb => by rw [hnew]; exact hb
  have hfr' : Frame (own ρ h) w w' := hfr.mono (fun r hr => (hno r hr).elim)
  refine ⟨av.ren (fun b => h.length + b), v, ρ ++ ρ1, _, rfl, ⟨av, h0, hR, rfl, rfl⟩, ?_, ⟨?_, ?_, ?_⟩, hext', fun r hr => (hown r hr).imp id (how' r), hfr'⟩
  · exact renV_rel hren av v (relV_noRo av ρ1 v n1 hv)
  · simp [hlen, hh.len]
  · intro b ps hb
    rcases Nat.lt_or_ge b h.length with h4 | h4
    · rw [List.getElem?_append_left h4] at hb
      rw [List.getElem?_append_left (by omega)]
      refine (h2.blk b ps hb).keep (hfr'.mono (fun r hr => Or.inr hr) : Frame (XOf E ρ h) w w').keep hX hext' ?_
      intro r hr
      exact hfr.same r (h2.own_lt ⟨b, hr, ps, hb⟩) (hno r)
    · obtain ⟨c, rfl⟩ := Nat.exists_eq_add_of_le h4
      rw [hnewh] at hb
      rw [hnew]
      cases hq : h0[c]? with
      | none => rw [hq] at hb; cases hb
      | some x =>
        rw [hq] at hb
        cases x with
        | none => simp [renB] at hb
        | some qs =>
          simp only [renB, Option.map_some, Option.some.injEq] at hb
          subst hb
          have h5 := hh.blk c qs hq
          have hnq : noRoL qs = true := by
            have := (List.all_eq_true.1 n2) (some qs) (List.mem_of_getElem? hq)
            simpa using this
          unfold BRel at h5 ⊢
          split at h5
          · obtain ⟨c1, e, fz, h6, h7, cs, post, h8, h9⟩ := h5
            exact ⟨c1, e, fz, h6, h7, cs, post, h8, renL_rel hren qs cs (relAll_noRo qs ρ1 cs hnq h9)⟩
          · exact renL_rel hren qs [] (relAll_noRo qs ρ1 [] hnq h5)
          · exact h5.elim
  · intro b b' r hb hb' l1 l2
    have cross : ∀ c c', c < h.length → (ρ ++ ρ1)[c]? = some (some r) → (ρ ++ ρ1)[h.length + c']? = some (some r) → live (h ++ h0.map (renB fun b => h.length + b)) c →
        live (h ++ h0.map (renB fun b => h.length + b)) (h.length + c') → False := by
      intro c c' hc e1 e2 m1 m2
      rw [List.getElem?_append_left (by omega)] at e1
      rw [hnew] at e2
      have := h2.own_lt ⟨c, e1, (hliveo c hc).1 m1⟩
      have := how' r ⟨c', e2, hliven c' m2⟩
      omega
    rcases Nat.lt_or_ge b h.length with h4 | h4 <;> rcases Nat.lt_or_ge b' h.length with h5 | h5
    · rw [List.getElem?_append_left (by omega)] at hb hb'
      exact h2.inj b b' r hb hb' ((hliveo b h4).1 l1) ((hliveo b' h5).1 l2)
    · obtain ⟨c, rfl⟩ := Nat.exists_eq_add_of_le h5
      exact (cross b c h4 hb hb' l1 l2).elim
    · obtain ⟨c, rfl⟩ := Nat.exists_eq_add_of_le h4
      exact (cross b' c h5 hb' hb l2 l1).elim
    · obtain ⟨c, rfl⟩ := Nat.exists_eq_add_of_le h4
      obtain ⟨c', rfl⟩ := Nat.exists_eq_add_of_le h5
      rw [hnew] at hb hb'
      rw [hh.inj c c' r hb hb' (hliven c l1) (hliven c' l2)]
end Go.Ax

namespace Go.Ax
theorem wrap_i64_id (x : Int) (h : -9223372036854775808 ≤ x ∧ x < 9223372036854775808) : IntKind.i64.wrap x = x := by
  unfold IntKind.wrap
  simp only [IntKind.bits, IntKind.signed]
  simp
  omega
theorem wrap_u64' (x : Int) : IntKind.u64.wrap x = x % 18446744073709551616 := by
  unfold IntKind.wrap
  simp [IntKind.bits, IntKind.signed]
theorem wrap_u32' (x : Int) : IntKind.u32.wrap x = x % 4294967296 := by
  unfold IntKind.wrap
  simp [IntKind.bits, IntKind.signed]
theorem wrap_u8' (x : Int) : IntKind.u8.wrap x = x % 256 := by
  unfold IntKind.wrap
  simp [IntKind.bits, IntKind.signed]
theorem ar_nat (n : Nat) (h : n < 9223372036854775808) : IntKind.i64.wrap (n : Int) = (n : Int) := wrap_i64_id _ (by omega)
theorem ar_u64 (n : Nat) (h : n < 18446744073709551616) : IntKind.u64.wrap (n : Int) = (n : Int) := by rw [wrap_u64']; omega
theorem ar_add (x y : Int) (h : 0 ≤ x ∧ 0 ≤ y ∧ x + y < 9223372036854775808) : IntKind.i64.wrap (x + y) = ((x.toNat + y.toNat : Nat) : Int) := by rw [wrap_i64_id _ (by omega)]; omega
theorem ar_addu (x y : Int) (h : 0 ≤ x ∧ 0 ≤ y ∧ x + y < 18446744073709551616) : IntKind.u64.wrap (x + y) = ((x.toNat + y.toNat : Nat) : Int) := by rw [wrap_u64']; omega
theorem ar_sub (x y : Int) (h : 0 ≤ y ∧ y ≤ x ∧ x < 9223372036854775808) : IntKind.i64.wrap (x - y) = ((x.toNat - y.toNat : Nat) : Int) := by rw [wrap_i64_id _ (by omega)]; omega
theorem ar_mul (x y : Int) (h0 : 0 ≤ x ∧ 0 ≤ y) (h : x * y < 9223372036854775808) : IntKind.i64.wrap (x * y) = ((x.toNat * y.toNat : Nat) : Int) := by
  have h2 := Int.mul_nonneg h0.1 h0.2
  rw [wrap_i64_id _ (by omega), Int.natCast_mul, Int.toNat_of_nonneg h0.1, Int.toNat_of_nonneg h0.2]
theorem ar_div (x y : Int) (h : 0 ≤ x ∧ 0 ≤ y) : x.tdiv y = ((x.toNat / y.toNat : Nat) : Int) := by
  obtain ⟨a, rfl⟩ := Int.eq_ofNat_of_zero_le h.1
  obtain ⟨b, rfl⟩ := Int.eq_ofNat_of_zero_le h.2
  rfl
theorem ar_mod (x y : Int) (h : 0 ≤ x ∧ 0 ≤ y) : x.tmod y = ((x.toNat % y.toNat : Nat) : Int) := by
  obtain ⟨a, rfl⟩ := Int.eq_ofNat_of_zero_le h.1
  obtain ⟨b, rfl⟩ := Int.eq_ofNat_of_zero_le h.2
  rfl
theorem ar_dec_t {p : Prop} [Decidable p] (h : p) : decide p = true := decide_eq_true h
theorem ar_dec_f {p : Prop} [Decidable p] (h : ¬ p) : decide p = false := decide_eq_false h
theorem ar_beq_t {a b : Int} (h : a = b) : (a == b) = true := by simp [h]
theorem ar_beq_f {a b : Int} (h : a ≠ b) : (a == b) = false := by simp [h]
theorem ar_bne_t {a b : Int} (h : a ≠ b) : (a != b) = true := by simp [h]
theorem ar_bne_f {a b : Int} (h : a = b) : (a != b) = false := by simp [h]
theorem ar_guard {α : Type} {c : Prop} [Decidable c] {x : Option α} (h : c) : oguard c x = x := by unfold oguard; exact if_pos h
theorem ar_take {α : Type} {l : List α} {n : Nat} (h : l.length ≤ n) : l.take n = l := List.take_of_length_le h
theorem ar_take_drop {α : Type} {l : List α} {a b : Nat} (h : l.length ≤ a + b) : (l.drop a).take b = l.drop a := List.take_of_length_le (by rw [List.length_drop]; omega)
theorem ar_drop {α : Type} {l : List α} {n : Nat} (h : l.length ≤ n) : l.drop n = [] := List.drop_eq_nil_of_le h
theorem ar_toNat (n : Nat) : (n : Int).toNat = n := rfl
theorem ar_cast (n : Nat) : (Int.ofNat n) = (n : Int) := rfl

def fillAt (f : Nat → Int) (l : List Int) : Nat → List Int
  | 0 => l
  | i + 1 => (fillAt f l i).set i (f i)
theorem fillAt_len (f : Nat → Int) (l : List Int) : ∀ i, (fillAt f l i).length = l.length
  | 0 => rfl
  | i + 1 => by simp only [fillAt, List.length_set, fillAt_len f l i]
theorem fillAt_eq (f : Nat → Int) (l : List Int) : ∀ i, i ≤ l.length → fillAt f l i = (List.range i).map f ++ l.drop i
  | 0, _ => by simp [fillAt]
  | i + 1, h => by
    rw [fillAt, fillAt_eq f l i (by omega), List.range_succ, List.map_append, List.set_append]
    simp only [List.length_map, List.length_range, Nat.lt_irrefl, if_false, Nat.sub_self]
    rw [List.drop_eq_getElem_cons (show i < l.length by omega), List.set_cons_zero]
    simp
theorem fillAt_all (f : Nat → Int) (l : List Int) (n : Nat) (h : l.length = n) : fillAt f l n = (List.range n).map f := by
  rw [fillAt_eq f l n (by omega), List.drop_eq_nil_of_le (by omega), List.append_nil]

section
variable {C : Cfg} {k : List KI} {σ : St} {Q : Exit → St → Prop}
theorem execOps_mono {ops : Array Oper} : ∀ (l : List Oper) {σ : St} {κ κ' : St → Prop}, (∀ σ, κ σ → κ' σ) → execOps C ops l σ κ → execOps C ops l σ κ'
  | [], σ, κ, κ', hk, h => hk σ h
  | o :: l, σ, κ, κ', hk, h => by
    rw [execOps_cons] at h ⊢
    exact stepW_mono (fun σ' h' => execOps_mono l hk h') h
theorem exec_mono : ∀ (c : Code) {σ : St} {κ κ' : Exit → St → Prop}, (∀ ex σ, κ ex σ → κ' ex σ) → exec C c σ κ → exec C c σ κ'
  | .skip, σ, κ, κ', hk, h => hk _ _ h
  | .region id ops d, σ, κ, κ', hk, h => by
    unfold exec at h ⊢
    split at h
    · rename_i hc; rw [if_pos hc]; exact h.mono hk
    · rename_i hc; rw [if_neg hc]; exact execOps_mono _ (hk .normal) h
  | .seq a b, σ, κ, κ', hk, h => by
    unfold exec at h ⊢
    refine exec_mono a ?_ h
    intro ex σ' h'
    cases ex with
    | normal => exact exec_mono b hk h'
    | _ => exact hk _ _ h'
  | .cond c x y, σ, κ, κ', hk, h => by
    unfold exec condK at h ⊢
    split at h
    · rename_i t ht
      cases t
      · exact exec_mono y hk h
      · exact exec_mono x hk h
    · exact h.elim
  | .block id b, σ, κ, κ', hk, h => by
    unfold exec at h ⊢
    refine exec_mono b ?_ h
    intro ex σ' h'
    unfold blockK at h' ⊢
    cases ex with
    | exit i =>
      simp only at h' ⊢
      by_cases hi : i = id
      · rw [if_pos hi] at h' ⊢; exact hk _ _ h'
      · rw [if_neg hi] at h' ⊢; exact hk _ _ h'
    | _ => exact hk _ _ h'
  | .loop b, σ, κ, κ', hk, h => by unfold exec at h ⊢; exact h.mono hk
  | .exit id, σ, κ, κ', hk, h => hk _ _ h
  | .ret, σ, κ, κ', hk, h => hk _ _ h
  | .scope b, σ, κ, κ', hk, h => by unfold exec at h; exact h.elim
  | .rangeFunc .., σ, κ, κ', hk, h => by unfold exec at h ⊢; exact h.mono hk
  | .label l, σ, κ, κ', hk, h => by unfold exec at h; exact h.elim
  | .goto l, σ, κ, κ', hk, h => by unfold exec at h; exact h.elim
  | .refuse w, σ, κ, κ', hk, h => by unfold exec at h; exact h.elim
theorem contK_mono : ∀ (k : List KI) {Q Q' : Exit → St → Prop}, (∀ ex σ, Q ex σ → Q' ex σ) → ∀ ex σ, contK C k Q ex σ → contK C k Q' ex σ
  | [], Q, Q', h, ex, σ, hq => h ex σ hq
  | .code c :: k, Q, Q', h, ex, σ, hq => by
    unfold contK at hq ⊢
    cases ex with
    | normal => exact exec_mono c (contK_mono k h) hq
    | _ => exact contK_mono k h _ _ hq
  | .blk id :: k, Q, Q', h, ex, σ, hq => by
    unfold contK blockK at hq ⊢
    cases ex with
    | exit i =>
      simp only at hq ⊢
      by_cases hi : i = id
      · rw [if_pos hi] at hq ⊢; exact contK_mono k h _ _ hq
      · rw [if_neg hi] at hq ⊢; exact contK_mono k h _ _ hq
    | _ => exact contK_mono k h _ _ hq
  | .plan ops p :: k, Q, Q', h, ex, σ, hq => by
    unfold contK at hq ⊢
    cases ex with
    | normal =>
      have : ∀ (p : Plan) σ, goPlan C ops (contK C k Q .normal) p σ → goPlan C ops (contK C k Q' .normal) p σ := by
        intro p
        induction p with
        | done => exact fun σ h2 => contK_mono k h _ _ h2
        | stop => exact fun _ _ => trivial
        | first i p ih =>
          intro σ h2
          unfold goPlan opR at h2 ⊢
          cases hop : ops[i]? with
          | none => rw [hop] at h2; exact h2
          | some o => rw [hop] at h2; exact stepW_mono ih h2
        | fork i p q ihp ihq =>
          intro σ h2
          unfold goPlan at h2 ⊢
          refine ⟨?_, ihq σ h2.2⟩
          have h3 := h2.1
          unfold opR at h3 ⊢
          cases hop : ops[i]? with
          | none => rw [hop] at h3; exact h3
          | some o => rw [hop] at h3; exact stepW_mono ihp h3
      exact this p σ hq
    | _ => exact contK_mono k h _ _ hq
theorem run_mono {c : Code} {Q' : Exit → St → Prop} (hk : ∀ ex σ, Q ex σ → Q' ex σ) (h : run C c k σ Q) : run C c k σ Q' :=
  exec_mono c (contK_mono k hk) h
theorem loop_count (hC : C.Good) {b : Code} (S : Nat → St) (n : Nat) (hb : drawOk C b = true) (h0 : Weak C σ (S 0))
    (round : ∀ i, i < n → run C b [] (S i) (fun ex σ' => thenK (fun σ' => Weak C σ' (S (i + 1))) (fun ex σ' => cont C ex k σ' Q) ex σ'))
    (last : run C b [] (S n) (fun ex σ' => thenK (fun _ => False) (fun ex σ' => cont C ex k σ' Q) ex σ')) : loopR C b k σ Q := by
  refine loopR_of hC (α := {i : Nat // i ≤ n}) (fun i => S i.val) (fun i => n - i.val) ⟨0, by omega⟩ hb h0 ?_
  rintro ⟨i, hi⟩
  by_cases h : i < n
  · refine run_mono (k := []) ?_ (round i h)
    intro ex σ' hq
    cases ex with
    | normal => exact ⟨⟨i + 1, by omega⟩, by simp only; omega, hq⟩
    | _ => exact hq
  · obtain rfl : i = n := by omega
    refine run_mono (k := []) ?_ last
    intro ex σ' hq
    cases ex with
    | normal => exact hq.elim
    | _ => exact hq
end
end Go.Ax
namespace Go.Ax
section
variable {C : Cfg} {k : List KI} {σ : St} {Q : Exit → St → Prop} {all : Array Oper} {l : List Oper}
theorem condR_t (x y : Code) : condR C (.v (.bool true)) x y k σ Q = run C x k σ Q := by rw [condR_bool]; rfl
theorem condR_f (x y : Code) : condR C (.v (.bool false)) x y k σ Q = run C y k σ Q := by rw [condR_bool]; rfl
theorem wantR_tt (o : Oper) : wantR C (.v (.bool true)) true o all l k σ Q = stepV C o all l k σ Q := by rw [wantR_bool]; rfl
theorem wantR_ff (o : Oper) : wantR C (.v (.bool false)) false o all l k σ Q = stepV C o all l k σ Q := by rw [wantR_bool]; rfl
theorem wantR_tf (o : Oper) : wantR C (.v (.bool true)) false o all l k σ Q = opsR C all l k ⟨put σ.e o.dst (.tup []), σ.h⟩ Q := by rw [wantR_bool]; rfl
theorem wantR_ft (o : Oper) : wantR C (.v (.bool false)) true o all l k σ Q = opsR C all l k ⟨put σ.e o.dst (.tup []), σ.h⟩ Q := by rw [wantR_bool]; rfl
end
end Go.Ax
namespace Go.Ax
theorem weak_of {C : Cfg} {e : Env} {h h' : List Blk} {L : List (Nat × AV)} (hh : h = h') (hL : envAll e L) : Weak C ⟨e, h⟩ ⟨envL L, h'⟩ := hh ▸ weak_all hL
end Go.Ax
namespace Go.Ax
def nilK (kt : Kd) (n : Option Nat) (q : Bool) (y : AV) : Option (Nat × Bool) :=
  match kt, n, y with
  | .slice _, some n, .v (.slice none 0 0) => some (n, q)
  | _, _, _ => none
theorem nilCmp_eql {P : Program} {e : Env} (t t' : TypeId) (x y : Operand) : nilCmp P e (.binOp .eql t x y t') = nilK (kindT P t) (lenA (ev e x)) true (ev e y) := by
  unfold nilCmp nilK; rfl
theorem nilCmp_neq {P : Program} {e : Env} (t t' : TypeId) (x y : Operand) : nilCmp P e (.binOp .neq t x y t') = nilK (kindT P t) (lenA (ev e x)) false (ev e y) := by
  unfold nilCmp nilK; rfl
theorem nilK_some (b : Bool) (n : Nat) (q : Bool) : nilK (.slice b) (some n) q (.v (.slice none 0 0)) = some (n, q) := rfl
end Go.Ax
namespace Go.Ax
def bsK (h : List Blk) (n : Nat) (parts : List (Nat × AV)) : Option (List AV) → Option Nat → Option Out
  | some [.arr n' k l], some 1 => if n = n' ∧ n ≤ 16777216 then (layInts k parts l).map fun l' => .one (.sl h.length 0 1 0 n n) (h ++ [some [.arr n k l']]) else none
  | some [.lst 1 es], some 1 => if n ≤ 16777216 then (layOnes parts es).map fun es' => .one (.sl h.length 0 1 0 n n) (h ++ [some es']) else none
  | _, _ => none
theorem bsK_of {P : Program} {h : List Blk} {t : TypeId} {n : Nat} {parts : List (Nat × AV)} : buildSliceA P h t n parts = bsK h n parts (elemZero P t n) (elemSize P t) := rfl
theorem bsK_ints (h : List Blk) (n : Nat) (parts : List (Nat × AV)) (k : IntKind) (l : List Int) : bsK h n parts (some [.arr n k l]) (some 1) =
    if n ≤ 16777216 then (layInts k parts l).map fun l' => .one (.sl h.length 0 1 0 n n) (h ++ [some [.arr n k l']]) else none := by simp [bsK]
theorem bsK_ones (h : List Blk) (n : Nat) (parts : List (Nat × AV)) (es : List AV) : bsK h n parts (some [.lst 1 es]) (some 1) =
    if n ≤ 16777216 then (layOnes parts es).map fun es' => .one (.sl h.length 0 1 0 n n) (h ++ [some es']) else none := rfl
def moK (h : List Blk) (kt : Kd) (z : Option (IntKind × Int)) (x : AV) : Option (IntKind × List Int) :=
  match kt with
  | .slice _ => intsOf h x
  | .int _ => match x, z with
    | .v (.int .i64 n), some (k, z) => oguard (0 ≤ n ∧ n ≤ 1073741824) (some (k, List.replicate n.toNat z))
    | _, _ => none
  | _ => none
theorem moK_of {P : Program} {h : List Blk} {kt : Kd} {t : TypeId} {x : AV} : moreA P h kt t x = moK h kt (elemZ P t) x := rfl
theorem moK_slice (h : List Blk) (b : Bool) (z : Option (IntKind × Int)) (x : AV) : moK h (.slice b) z x = intsOf h x := rfl
theorem moK_int (h : List Blk) (i : IntKind) (k : IntKind) (z n : Int) : moK h (.int i) (some (k, z)) (.v (.int .i64 n)) = oguard (0 ≤ n ∧ n ≤ 1073741824) (some (k, List.replicate n.toNat z)) := rfl
def apK (h : List Blk) (s : AV) (ok : Option IntKind) (ob : Option Nat) (om : Option (IntKind × List Int)) : Option Out :=
  match ok, ob, om with
  | some k, some bytes, some (k', m) =>
    if k = k' then
      match s with
      | .v (.slice none 0 0) => oguard (m.length * bytes ≤ 140737488355328 ∧ m.length ≤ 9223372036854775807) (some (.cap m.length fun c => (.sl h.length 0 1 0 m.length c, h ++ [some [.arr m.length k m]])))
      | .sl b base sz off len cap =>
        match row h b with
        | some (.arr n kk l :: _) =>
          if sz = 1 ∧ base = 0 ∧ kk = k then
            if off = 0 then
              oguard (len ≤ n ∧ (len + m.length) * bytes ≤ 140737488355328 ∧ len + m.length ≤ 9223372036854775807)
                (some (.cap (len + m.length) fun c => (.sl h.length 0 1 0 (len + m.length) c, h.set b none ++ [some [.arr (len + m.length) k (l.take len ++ m)]])))
            else
              oguard (off + len ≤ n ∧ cap < len + m.length ∧ (len + m.length) * bytes ≤ 140737488355328 ∧ len + m.length ≤ 9223372036854775807)
                (some (.cap (len + m.length) fun c => (.sl h.length 0 1 0 (len + m.length) c, h ++ [some [.arr (len + m.length) k ((l.drop off).take len ++ m)]])))
          else none
        | _ => none
      | _ => none
    else none
  | _, _, _ => none
theorem apK_of {P : Program} {h : List Blk} {t xT : TypeId} {s x : AV} : appendA P h t xT s x = apK h s (intElem P t) (elemBytes P t) (moreA P h (kindT P xT) t x) := by
  unfold appendA apK
  rfl
def apR (h : List Blk) (b off len cap : Nat) (k : IntKind) (bytes : Nat) (m : List Int) : Option (List AV) → Option Out
  | some (.arr n kk l :: _) =>
    if kk = k then
      if off = 0 then
        oguard (len ≤ n ∧ (len + m.length) * bytes ≤ 140737488355328 ∧ len + m.length ≤ 9223372036854775807)
          (some (.cap (len + m.length) fun c => (.sl h.length 0 1 0 (len + m.length) c, h.set b none ++ [some [.arr (len + m.length) k (l.take len ++ m)]])))
      else
        oguard (off + len ≤ n ∧ cap < len + m.length ∧ (len + m.length) * bytes ≤ 140737488355328 ∧ len + m.length ≤ 9223372036854775807)
          (some (.cap (len + m.length) fun c => (.sl h.length 0 1 0 (len + m.length) c, h ++ [some [.arr (len + m.length) k ((l.drop off).take len ++ m)]])))
    else none
  | _ => none
theorem apK_nil (h : List Blk) (k : IntKind) (bytes : Nat) (m : List Int) : apK h (.v (.slice none 0 0)) (some k) (some bytes) (some (k, m)) =
    oguard (m.length * bytes ≤ 140737488355328 ∧ m.length ≤ 9223372036854775807) (some (.cap m.length fun c => (.sl h.length 0 1 0 m.length c, h ++ [some [.arr m.length k m]]))) := by simp [apK]
theorem apK_sl (h : List Blk) (b off len cap : Nat) (k : IntKind) (bytes : Nat) (m : List Int) : apK h (.sl b 0 1 off len cap) (some k) (some bytes) (some (k, m)) = apR h b off len cap k bytes m (row h b) := by
  unfold apK apR
  simp only [if_true, true_and]
theorem apR_0 (h : List Blk) (b len cap : Nat) (k : IntKind) (bytes : Nat) (m : List Int) (n : Nat) (l : List Int) (r : List AV) : apR h b 0 len cap k bytes m (some (.arr n k l :: r)) =
    oguard (len ≤ n ∧ (len + m.length) * bytes ≤ 140737488355328 ∧ len + m.length ≤ 9223372036854775807)
          (some (.cap (len + m.length) fun c => (.sl h.length 0 1 0 (len + m.length) c, h.set b none ++ [some [.arr (len + m.length) k (l.take len ++ m)]]))) := by simp [apR]
theorem apK_no (h : List Blk) (s : AV) (ob : Option Nat) (om : Option (IntKind × List Int)) : apK h s none ob om = none := rfl
theorem akeep_no {P : Program} {h : List Blk} {t xT : TypeId} {s x : AV} (hi : intElem P t = none) : appendKeepA P h t xT s x = none := by unfold appendKeepA; rw [hi]
def alK (h : List Blk) (s : AV) (ob : Option Nat) (kd : Kd) (om ol : Option (List AV)) : Option Out :=
  match ob, kd, om, ol, s with
  | some bytes, .slice _, some m, some l, .sl b _ _ _ _ _ =>
    oguard ((l.length + m.length) * bytes ≤ 140737488355328 ∧ l.length + m.length ≤ 9223372036854775807)
      (some (.cap (l.length + m.length) fun c => (.sl h.length 0 1 0 (l.length + m.length) c, h.set b none ++ [some (l ++ m)])))
  | some bytes, .slice _, some m, some _, .v (.slice none 0 0) =>
    oguard (m.length * bytes ≤ 140737488355328 ∧ m.length ≤ 9223372036854775807)
      (some (.cap m.length fun c => (.sl h.length 0 1 0 m.length c, h ++ [some m])))
  | _, _, _, _, _ => none
theorem alK_of {P : Program} {h : List Blk} {t xT : TypeId} {s x : AV} : appendLA P h t xT s x = alK h s (listB P t) (kindT P xT) (listOf h x) (listOf h s) := rfl
theorem alK_sl (h : List Blk) (b b1 b2 b3 b4 b5 bytes : Nat) (f : Bool) (m l : List AV) : alK h (.sl b b1 b2 b3 b4 b5) (some bytes) (.slice f) (some m) (some l) =
    oguard ((l.length + m.length) * bytes ≤ 140737488355328 ∧ l.length + m.length ≤ 9223372036854775807)
      (some (.cap (l.length + m.length) fun c => (.sl h.length 0 1 0 (l.length + m.length) c, h.set b none ++ [some (l ++ m)]))) := rfl
theorem alK_nil (h : List Blk) (bytes : Nat) (f : Bool) (m l : List AV) : alK h (.v (.slice none 0 0)) (some bytes) (.slice f) (some m) (some l) =
    oguard (m.length * bytes ≤ 140737488355328 ∧ m.length ≤ 9223372036854775807)
      (some (.cap m.length fun c => (.sl h.length 0 1 0 m.length c, h ++ [some m]))) := rfl
def loK (len : Nat) (o : Option (List AV)) : Option (List AV) := o.bind fun ps => oguard (ps.all (fun p => p.one) = true ∧ len ≤ ps.length) (some (ps.take len))
theorem loK_some (len : Nat) (ps : List AV) : loK len (some ps) = oguard (ps.all (fun p => p.one) = true ∧ len ≤ ps.length) (some (ps.take len)) := rfl
theorem listOf_roL (h : List Blk) (es : List AV) : listOf h (.roL 1 es) = some es := rfl
theorem listOf_nil (h : List Blk) : listOf h (.v (.slice none 0 0)) = some [] := rfl
theorem listOf_sl (h : List Blk) (b len cap : Nat) : listOf h (.sl b 0 1 0 len cap) = loK len (row h b) := rfl
theorem or_guard {α : Type} {c : Prop} [Decidable c] {x : α} {y : Option α} (h : c) : (oguard c (some x)).or y = some x := by rw [ar_guard h]; rfl
end Go.Ax
namespace Go.Ax
theorem intsOf_arr {h : List Blk} {b n off len cap : Nat} {k : IntKind} {l : List Int} {r : List AV} (hrow : row h b = some (.arr n k l :: r)) (h1 : off + len ≤ n) :
    intsOf h (.sl b 0 1 off len cap) = some (k, (l.drop off).take len) := by
  unfold intsOf
  simp only [if_true, hrow, Option.bind_some, rowDrop]
  exact ar_guard h1
theorem Frz.arr {h : List Blk} {B : List Nat} {b n off len cap : Nat} {k : IntKind} {l l' : List Int} {r : List AV} (hb : b ∈ B) (hrow : row h b = some (.arr n k l :: r)) (h1 : off + len ≤ n)
    (h2 : (l.drop off).take len = l') : Frz h B (.sl b 0 1 off len cap) (.roI k l') := Frz.ints hb (by rw [intsOf_arr hrow h1, h2])
end Go.Ax
namespace Go.Ax
section
variable {C : Cfg} {k : List KI} {σ : St} {Q : Exit → St → Prop}
theorem loop_countE (hC : C.Good) {α : Type} {b : Code} (S : Nat → α → St) (n : Nat) (hb : drawOk C b = true) (h0 : ∃ a, Weak C σ (S 0 a))
    (round : ∀ i a, i < n → run C b [] (S i a) (fun ex σ' => thenK (fun σ' => ∃ a', Weak C σ' (S (i + 1) a')) (fun ex σ' => cont C ex k σ' Q) ex σ'))
    (last : ∀ a, run C b [] (S n a) (fun ex σ' => thenK (fun _ => False) (fun ex σ' => cont C ex k σ' Q) ex σ')) : loopR C b k σ Q := by
  obtain ⟨a0, h0⟩ := h0
  refine loopR_of hC (α := {i : Nat // i ≤ n} × α) (fun i => S i.1.val i.2) (fun i => n - i.1.val) (⟨0, by omega⟩, a0) hb h0 ?_
  rintro ⟨⟨i, hi⟩, a⟩
  by_cases h : i < n
  · refine run_mono (k := []) ?_ (round i a h)
    intro ex σ' hq
    cases ex with
    | normal =>
      obtain ⟨a', hq⟩ := hq
      exact ⟨(⟨i + 1, by omega⟩, a'), by simp only; omega, hq⟩
    | _ => exact hq
  · obtain rfl : i = n := by omega
    refine run_mono (k := []) ?_ (last a)
    intro ex σ' hq
    cases ex with
    | normal => exact hq.elim
    | _ => exact hq
end
theorem roL_get (k : IntKind) (ms : List (List Int)) (i : Nat) (h : i < ms.length) : (ms.map (AV.roI k)).getD i AV.any = .roI k (ms.getD i []) := by
  simp [List.getD_eq_getElem?_getD, h]
theorem callC_fr {C : Cfg} {k : List KI} {Q : Exit → St → Prop} {all : Array Oper} {l : List Oper} {e : Env} {h : List Blk} {d : Option Tmp} {f : FuncId} {argsC : List AV} {hc : List Blk} {R : AV → List Blk → Prop}
    (π : List Nat) (spec : ACall C.P f argsC hc R) {args : List AV}
    (hargs : args = renL (frameMap π h.length) argsC) (hblk : π.map (fun p => h[p]?) = hc.map (fun x => some (renB (frameMap π h.length) x))) (hπ : π.Nodup)
    (hκ : ∀ av h', R av h' → opsR C all l k ⟨put e d (av.ren (frameMap π h.length)), overwrite h π (h'.map (renB (frameMap π h.length)))⟩ Q) : callC C f args d all l k e h Q := by
  have hlen : hc.length = π.length := by simpa using (congrArg List.length hblk).symm
  have hat : ∀ j, j < π.length → h[π.getD j 0]? = (hc[j]?).map (renB (frameMap π h.length)) := by
    intro j hj
    have := congrArg (fun l : List (Option Blk) => l[j]?) hblk
    simp only [List.getElem?_map, List.getElem?_eq_getElem hj, List.getElem?_eq_getElem (hlen ▸ hj : j < hc.length), Option.map_some, Option.some.injEq] at this
    rw [List.getD_eq_getElem?_getD, List.getElem?_eq_getElem hj, Option.getD_some, this, List.getElem?_eq_getElem (hlen ▸ hj : j < hc.length)]
    rfl
  refine callC_frame spec π hargs hlen hπ ?_ hat hκ
  intro p hp
  obtain ⟨j, hj, rfl⟩ := List.mem_iff_getElem.1 hp
  have := hat j hj
  rw [List.getD_eq_getElem?_getD, List.getElem?_eq_getElem hj, Option.getD_some, List.getElem?_eq_getElem (hlen ▸ hj : j < hc.length)] at this
  exact (List.getElem?_eq_some_iff.1 this).1
end Go.Ax
namespace Go.Ax
theorem take_range (f : Nat → Int) (i : Nat) : ((List.range i).map f).take i = (List.range i).map f := List.take_of_length_le (by simp)
theorem rep_one {α : Type} (a : α) : List.replicate 1 a = [a] := rfl
theorem take_one {α : Type} (a : α) : [a].take 1 = [a] := rfl
theorem range_snoc (f : Nat → Int) (i : Nat) : (List.range (i + 1)).map f = (List.range i).map f ++ [f i] := by rw [List.range_succ, List.map_append]; rfl
end Go.Ax

namespace Go.Ax

def rotL (x n : Int) : Int :=
  IntKind.u64.wrap ((BitVec.ofInt IntKind.u64.bits (shl IntKind.u64 x (IntKind.u64.wrap ↑(BitVec.ofInt IntKind.u64.bits (IntKind.u64.wrap n) &&& BitVec.ofInt IntKind.u64.bits 63).toNat)) |||
    BitVec.ofInt IntKind.u64.bits (shr IntKind.u64 x (IntKind.u64.wrap (64 - IntKind.u64.wrap ↑(BitVec.ofInt IntKind.u64.bits (IntKind.u64.wrap n) &&& BitVec.ofInt IntKind.u64.bits 63).toNat)))).toNat : Int)

def rotR (n x : Int) : Int :=
  IntKind.u64.wrap ((BitVec.ofInt IntKind.u64.bits (shr IntKind.u64 x n) ||| BitVec.ofInt IntKind.u64.bits (shl IntKind.u64 x (IntKind.i64.wrap (64 - n)))).toNat : Int)

theorem rot_eq (x n m s : Int) (h1 : IntKind.u64.wrap ↑(BitVec.ofInt IntKind.u64.bits (IntKind.u64.wrap m) &&& BitVec.ofInt IntKind.u64.bits 63).toNat = s)
    (h2 : IntKind.u64.wrap (64 - s) = n) (h3 : IntKind.i64.wrap (64 - n) = s) : rotL x m = rotR n x := by
  unfold rotL rotR
  rw [h1, h2, h3, BitVec.or_comm]

theorem rot32 (x : Int) : rotL x (IntKind.i64.wrap (-32)) = rotR 32 x := rot_eq x 32 _ 32 (by decide) (by decide) (by decide)
theorem rot24 (x : Int) : rotL x (IntKind.i64.wrap (-24)) = rotR 24 x := rot_eq x 24 _ 40 (by decide) (by decide) (by decide)
theorem rot16 (x : Int) : rotL x (IntKind.i64.wrap (-16)) = rotR 16 x := rot_eq x 16 _ 48 (by decide) (by decide) (by decide)
theorem rot63 (x : Int) : rotL x (IntKind.i64.wrap (-63)) = rotR 63 x := rot_eq x 63 _ 1 (by decide) (by decide) (by decide)

theorem wrap_u64 (x : Int) : IntKind.u64.wrap x = x % 18446744073709551616 := by
  unfold IntKind.wrap
  simp [IntKind.bits, IntKind.signed]
theorem u64_nonneg (x : Int) : 0 ≤ IntKind.u64.wrap x := by rw [wrap_u64]; omega
theorem u64_add_l (x y : Int) : IntKind.u64.wrap (IntKind.u64.wrap x + y) = IntKind.u64.wrap (x + y) := by simp only [wrap_u64]; omega
theorem u64_add_r (x y : Int) : IntKind.u64.wrap (x + IntKind.u64.wrap y) = IntKind.u64.wrap (x + y) := by simp only [wrap_u64]; omega

def xorU (x y : Int) : Int := IntKind.u64.wrap ((BitVec.ofInt IntKind.u64.bits x ^^^ BitVec.ofInt IntKind.u64.bits y).toNat : Int)
def orU (x y : Int) : Int := IntKind.u64.wrap ((BitVec.ofInt IntKind.u64.bits x ||| BitVec.ofInt IntKind.u64.bits y).toNat : Int)

def addx (v : List Int) (a b : Nat) (x : Int) : List Int := v.set a (IntKind.u64.wrap (v.getD a 0 + (v.getD b 0 + x)))
def addp (v : List Int) (c d : Nat) : List Int := v.set c (IntKind.u64.wrap (v.getD c 0 + v.getD d 0))
def rotp (n : Int) (v : List Int) (d a : Nat) : List Int := v.set d (rotR n (xorU (v.getD d 0) (v.getD a 0)))
theorem addx_eq (v : List Int) (a b : Nat) (x : Int) : v.set a (IntKind.u64.wrap (v.getD a 0 + (v.getD b 0 + x))) = addx v a b x := rfl
theorem addp_eq (v : List Int) (c d : Nat) : v.set c (IntKind.u64.wrap (v.getD c 0 + v.getD d 0)) = addp v c d := rfl
theorem rotp_eq (n : Int) (v : List Int) (d a : Nat) : v.set d (rotR n (xorU (v.getD d 0) (v.getD a 0))) = rotp n v d a := rfl
theorem xorU_eq (x y : Int) : IntKind.u64.wrap ((BitVec.ofInt IntKind.u64.bits x ^^^ BitVec.ofInt IntKind.u64.bits y).toNat : Int) = xorU x y := rfl
theorem orU_eq (x y : Int) : IntKind.u64.wrap ((BitVec.ofInt IntKind.u64.bits x ||| BitVec.ofInt IntKind.u64.bits y).toNat : Int) = orU x y := rfl

def mixL (v : List Int) (a b c d : Nat) (x y : Int) : List Int :=
  rotp 63 (addp (rotp 16 (addx (rotp 24 (addp (rotp 32 (addx v a b x) d a) c d) b c) a b y) d a) c d) b c
theorem mixL_length (v : List Int) (a b c d : Nat) (x y : Int) : (mixL v a b c d x y).length = v.length := by simp [mixL, rotp, addp, addx]

def digitI (c : Int) : Int := if c ≥ 97 then IntKind.i64.wrap (IntKind.i64.wrap (IntKind.i64.wrap c - 97) + 10) else IntKind.i64.wrap (IntKind.i64.wrap c - 48)

theorem i64_id (x : Int) (h : -9223372036854775808 ≤ x ∧ x < 9223372036854775808) : IntKind.i64.wrap x = x := by
  unfold IntKind.wrap
  simp only [IntKind.bits, IntKind.signed]
  simp
  omega

def sigma : List Nat := [0,1,2,3,4,5,6,7,8,9,10,11,12,13,14,15, 14,10,4,8,9,15,13,6,1,12,0,2,11,7,5,3, 11,8,12,0,5,2,15,13,10,14,3,6,7,1,9,4, 7,9,3,1,13,12,11,14,2,6,5,10,4,0,15,8,
  9,0,5,7,2,4,10,15,14,1,11,12,6,8,3,13, 2,12,6,10,0,11,8,3,4,13,7,5,15,14,1,9, 12,5,1,15,14,13,4,10,0,7,6,3,9,2,8,11, 13,11,7,14,12,1,3,9,5,0,15,4,8,6,2,10, 6,15,14,9,11,3,0,8,12,2,13,7,1,4,10,5,
  10,2,8,4,7,6,1,5,15,11,9,14,3,12,13,0]

theorem tdiv_nat (a b : Nat) : (a : Int).tdiv (b : Int) = ((a / b : Nat) : Int) := rfl
theorem tdiv8 (a : Nat) : (a : Int).tdiv 8 = ((a / 8 : Nat) : Int) := rfl
theorem tmod8 (a : Nat) : (a : Int).tmod 8 = ((a % 8 : Nat) : Int) := rfl
theorem tmod10 (a : Nat) : (a : Int).tmod 10 = ((a % 10 : Nat) : Int) := rfl
theorem tmod4 (a : Nat) : (a : Int).tmod 4 = ((a % 4 : Nat) : Int) := rfl
theorem tdiv4 (a : Nat) : (a : Int).tdiv 4 = ((a / 4 : Nat) : Int) := rfl
theorem i64_nat (n : Nat) (h : n < 9223372036854775808) : IntKind.i64.wrap (n : Int) = (n : Int) := i64_id _ (by omega)
def wordsAt (p : List Int) : Nat → List Int
  | 0 => List.replicate 16 0
  | i + 1 => (wordsAt p i).set (i / 8) (orU ((wordsAt p i).getD (i / 8) 0) (shl IntKind.u64 (IntKind.u64.wrap (p.getD i 0)) (8 * (i % 8) : Nat)))

def firstL : List Int := [7640891576956012808, 13503953896175478587, 4354685564936845355, 11912009170470909681, 5840696475078001361, 11170449401992604703, 2270897969802886507, 6620516959819538809]

def vInit (h : List Int) (t : Int) (last : Bool) : List Int :=
  if last = true then ((h ++ firstL).set 12 (xorU ((h ++ firstL).getD 12 0) t)).set 14 (xorU IntKind.u64.max (((h ++ firstL).set 12 (xorU ((h ++ firstL).getD 12 0) t)).getD 14 0))
  else (h ++ firstL).set 12 (xorU ((h ++ firstL).getD 12 0) t)
def roundK (w v : List Int) (r k : Nat) : List Int :=
  mixL v (k % 4) (4 + (k + k / 4) % 4) (8 + (k + 2 * (k / 4)) % 4) (12 + (k + 3 * (k / 4)) % 4)
    (w.getD (sigma.getD (16 * (r % 10) + 2 * k) 0) 0) (w.getD (sigma.getD (16 * (r % 10) + (2 * k + 1)) 0) 0)
def roundAt (w v : List Int) (r : Nat) : Nat → List Int
  | 0 => v
  | k + 1 => roundK w (roundAt w v r k) r k
def allAt (w v : List Int) : Nat → List Int
  | 0 => v
  | r + 1 => roundAt w (allAt w v r) r 8
def outAt (h v : List Int) : Nat → List Int
  | 0 => h
  | i + 1 => (outAt h v i).set i (xorU ((outAt h v i).getD i 0) (xorU (v.getD i 0) (v.getD (8 + i) 0)))
def pieceL (h p : List Int) (t : Int) (last : Bool) : List Int := outAt h (allAt (wordsAt p 128) (vInit h t last) 12) 8

theorem roundAt_length (w v : List Int) (r : Nat) : ∀ k, (roundAt w v r k).length = v.length
  | 0 => rfl
  | k + 1 => by simp only [roundAt, roundK, mixL_length, roundAt_length w v r k]
theorem allAt_length (w v : List Int) : ∀ r, (allAt w v r).length = v.length
  | 0 => rfl
  | r + 1 => by simp only [allAt, roundAt_length, allAt_length w v r]
theorem outAt_length (h v : List Int) : ∀ i, (outAt h v i).length = h.length
  | 0 => rfl
  | i + 1 => by simp only [outAt, List.length_set, outAt_length h v i]
theorem wordsAt_length (p : List Int) : ∀ i, (wordsAt p i).length = 16
  | 0 => rfl
  | i + 1 => by simp only [wordsAt, List.length_set, wordsAt_length p i]
theorem vInit_length (h : List Int) (t : Int) (last : Bool) (hh : h.length = 8) : (vInit h t last).length = 16 := by
  unfold vInit; split <;> simp [hh, firstL]
theorem pieceL_length (h p : List Int) (t : Int) (last : Bool) : (pieceL h p t last).length = h.length := outAt_length _ _ _

theorem ofInt_wrap (b : BitVec IntKind.u64.bits) : BitVec.ofInt IntKind.u64.bits (IntKind.u64.wrap (b.toNat : Int)) = b := by
  rw [wrap_u64]
  have h : b.toNat < 2 ^ 64 := b.isLt
  apply BitVec.eq_of_toNat_eq
  rw [BitVec.toNat_ofInt]
  show ((b.toNat : Int) % 18446744073709551616 % ((2 ^ 64 : Nat) : Int)).toNat = b.toNat
  omega
theorem xorU_assoc (x y z : Int) : xorU (xorU x y) z = xorU x (xorU y z) := by
  unfold xorU
  rw [ofInt_wrap, ofInt_wrap, BitVec.xor_assoc]
def layAt (h : List Int) : Nat → List Int
  | 0 => List.replicate 16 0
  | i + 1 => ((layAt h i).set i (h.getD i 0)).set (8 + i) (firstL.getD i 0)
theorem layAt_eq (h : List Int) (hh : h.length = 8) : layAt h 8 = h ++ firstL := by
  match h, hh with
  | [a, b, c, d, e, f, g, i], _ => rfl
end Go.Ax

namespace Go.Ax
def qOf (n : Nat) : Nat := (n - 1) / 128
def pieces (h : List Int) (all : List Int) : Nat → List Int
  | 0 => h
  | i + 1 => pieceL (pieces h all i) ((all.drop (128 * i)).take 128) ((128 * i + 128 : Nat) : Int) false
theorem pieces_len (h all : List Int) : ∀ i, (pieces h all i).length = h.length
  | 0 => rfl
  | i + 1 => by simp only [pieces, pieceL_length, pieces_len h all i]
theorem pieces_app (h all m : List Int) : ∀ i, 128 * i ≤ all.length → pieces h (all ++ m) i = pieces h all i
  | 0, _ => rfl
  | i + 1, hi => by
    simp only [pieces]
    rw [pieces_app h all m i (by omega), List.drop_append_of_le_length (by omega), List.take_append_of_le_length (by rw [List.length_drop]; omega)]
def hState (h0 : List Int) (size : Nat) (all : List Int) (c b : Nat) : List AV :=
  [.arr 8 .u64 (pieces h0 all (qOf all.length)), .v (.int .i64 size), .sl b 0 1 0 (all.length - 128 * qOf all.length) c, .v (.int .u64 ((128 * qOf all.length : Nat) : Int))]
def hRest (all : List Int) : List AV := [.arr (all.length - 128 * qOf all.length) .u8 (all.drop (128 * qOf all.length))]
theorem qOf_le (n : Nat) : 128 * qOf n ≤ n := by unfold qOf; omega
end Go.Ax
namespace Go.Ax
def padL (r : List Int) : List Int := r ++ List.replicate (128 - r.length) 0
def byteAt (s : List Int) (i : Nat) : Int := IntKind.u8.wrap (shr IntKind.u64 (s.getD (i / 8) 0) ((8 * (i % 8) : Nat) : Int))
def paramL (n : Nat) (key : List Int) : List Int := firstL.set 0 (xorU (firstL.getD 0 0) (xorU (xorU 16842752 (shl IntKind.u64 (key.length : Nat) 8)) n))
theorem paramL_len (n : Nat) (key : List Int) : (paramL n key).length = 8 := rfl
theorem padL_len (r : List Int) (h : r.length ≤ 128) : (padL r).length = 128 := by simp [padL, h]
def keyB (key : List Int) : List Int := if key.length = 0 then [] else padL key
def digestL (h0 : List Int) (n : Nat) (all : List Int) : List Int := (List.range n).map (byteAt (pieceL (pieces h0 all (qOf all.length)) (padL (all.drop (128 * qOf all.length))) (all.length : Nat) true))
def blakeL (n : Nat) (key msg : List Int) : List Int := digestL (paramL n key) n (keyB key ++ msg)
theorem digestL_len (h0 : List Int) (n : Nat) (all : List Int) : (digestL h0 n all).length = n := by simp [digestL]
theorem keyB_len (key : List Int) (h : key.length ≤ 64) : (keyB key).length ≤ 128 := by
  unfold keyB; split
  · simp
  · rw [padL_len key (by omega)]; omega
end Go.Ax
namespace Go.Ax
theorem hState_ren (f : Nat → Nat) (h0 : List Int) (size : Nat) (all : List Int) (c b : Nat) : renL f (hState h0 size all c b) = hState h0 size all c (f b) := rfl
theorem hRest_ren (f : Nat → Nat) (all : List Int) : renL f (hRest all) = hRest all := rfl
theorem flat_take (ms : List (List Int)) (i : Nat) (h : i < ms.length) : (ms.take (i + 1)).flatten = (ms.take i).flatten ++ ms.getD i [] := by
  rw [List.take_succ_eq_append_getElem h, List.flatten_append]
  simp [List.getD_eq_getElem?_getD, h]
theorem flat_le (ms : List (List Int)) (i : Nat) : (ms.take i).flatten.length ≤ ms.flatten.length := by
  have h := congrArg (fun l : List (List Int) => l.flatten.length) (List.take_append_drop i ms)
  simp only [List.flatten_append, List.length_append] at h
  omega
end Go.Ax
namespace Go.Ax
theorem param_eq (n : Nat) (key : List Int) (x : Int) (hx : x = shl IntKind.u64 (key.length : Nat) 8) : firstL.set 0 (xorU (xorU (xorU (firstL.getD 0 0) 16842752) x) n) = paramL n key := by
  subst hx; unfold paramL; rw [xorU_assoc, xorU_assoc, xorU_assoc]
theorem range_getD (l : List Int) : ∀ (a m : Nat), a + m ≤ l.length → (List.range m).map (fun j => l.getD (a + j) 0) = (l.drop a).take m
  | a, 0, _ => by simp
  | a, m + 1, h => by
    rw [List.range_succ, List.map_append, range_getD l a m (by omega), List.take_succ_eq_append_getElem (by rw [List.length_drop]; omega)]
    simp [List.getD_eq_getElem?_getD, show a + m < l.length by omega]
theorem fill_piece (l : List Int) (a m : Nat) (hm : m = min 128 (l.length - a)) (ha : a ≤ l.length) : fillAt (fun j => l.getD (a + j) 0) (List.replicate 128 0) m = padL ((l.drop a).take 128) := by
  rw [fillAt_eq _ _ _ (by simp; omega), range_getD l a m (by omega), List.drop_replicate]
  unfold padL
  have h1 : (l.drop a).take m = (l.drop a).take 128 := by
    rw [hm]
    rcases Nat.le_total 128 (l.length - a) with h | h
    · rw [Nat.min_eq_left h]
    · rw [Nat.min_eq_right h, List.take_of_length_le (by simp), List.take_of_length_le (by rw [List.length_drop]; omega)]
  rw [h1]
  congr 2
  simp; omega
theorem padL_full (r : List Int) (h : r.length = 128) : padL r = r := by simp [padL, h]
def refAt (h0 all : List Int) (i : Nat) : List Int :=
  if qOf all.length < i then pieceL (pieces h0 all (qOf all.length)) (padL (all.drop (128 * qOf all.length))) (all.length : Nat) true else pieces h0 all i
theorem refAt_len (h0 all : List Int) (i : Nat) : (refAt h0 all i).length = h0.length := by unfold refAt; split <;> simp [pieceL_length, pieces_len]
theorem refAt_lo (h0 all : List Int) (i : Nat) (h : i ≤ qOf all.length) : refAt h0 all i = pieces h0 all i := by unfold refAt; rw [if_neg (by omega)]
theorem refAt_hi (h0 all : List Int) : refAt h0 all (qOf all.length + 1) = pieceL (pieces h0 all (qOf all.length)) (padL (all.drop (128 * qOf all.length))) (all.length : Nat) true := by unfold refAt; rw [if_pos (by omega)]
end Go.Ax

namespace Go.Ax
def u8Of (h : List Blk) (x : AV) : Option (List Int) :=
  match x with
  | .roI .u8 l => some l
  | .v (.slice none 0 0) => some []
  | .sl b base sz off len cap =>
    if sz = 1 then
      match intsOf h (.sl b base 1 off len cap) with
      | some (.u8, l) => some l
      | _ => none
    else none
  | _ => none
def allOf (f : AV → Option (List Int)) : List AV → Option (List (List Int))
  | [] => some []
  | x :: xs => (f x).bind fun a => (allOf f xs).map fun l => a :: l
def u8sOf (h : List Blk) (x : AV) : Option (List (List Int)) :=
  match x with
  | .roL 1 es => allOf (u8Of []) es
  | .v (.slice none 0 0) => some []
  | .sl b base sz off len _ =>
    if base = 0 ∧ sz = 1 then
      (row h b).bind fun ps => oguard (off + len ≤ ps.length ∧ ps.all AV.solid = true) (allOf (u8Of h) ((ps.drop off).take len))
    else none
  | _ => none
theorem row_lt {h : List Blk} {b : Nat} {ps : List AV} (e : row h b = some ps) : b < h.length := (List.getElem?_eq_some_iff.1 (row_some e)).1
theorem u8Of_frz {h : List Blk} {x : AV} {l : List Int} (e : u8Of h x = some l) : Frz h (List.range h.length) x (.roI .u8 l) := by
  unfold u8Of at e
  split at e
  · cases e; exact Frz.same _
  · cases e; exact Frz.nil _
  · rename_i b base sz off len cap
    split at e
    · rename_i hs
      subst hs
      split at e
      · rename_i l' hi
        cases e
        refine Frz.ints ?_ hi
        unfold intsOf at hi
        simp only [if_true] at hi
        obtain ⟨ps, hr, _⟩ := Option.bind_eq_some_iff.1 hi
        exact List.mem_range.2 (row_lt hr)
      · cases e
    · cases e
  · cases e
theorem allOf_frz {h : List Blk} {f : AV → Option (List Int)} (hf : ∀ x l, f x = some l → Frz h (List.range h.length) x (.roI .u8 l)) : ∀ {es : List AV} {ms : List (List Int)}, allOf f es = some ms → FrzL h (List.range h.length) es (ms.map (AV.roI .u8))
  | [], ms, e => by cases e; exact trivial
  | x :: xs, ms, e => by
    unfold allOf at e
    obtain ⟨a, ha, e⟩ := Option.bind_eq_some_iff.1 e
    obtain ⟨l, hl, e⟩ := Option.map_eq_some_iff.1 e
    subst e
    exact ⟨hf x a ha, allOf_frz hf hl⟩
theorem allOf_ro (ms : List (List Int)) (h : List Blk) : allOf (u8Of h) (ms.map (AV.roI .u8)) = some ms := by
  induction ms with
  | nil => rfl
  | cons m ms ih => simp only [List.map_cons, allOf, ih, u8Of, Option.bind_some, Option.map_some]
theorem u8Of_ro {e : AV} {l : List Int} (h : u8Of [] e = some l) : e = .roI .u8 l ∨ (l = [] ∧ e = .v (.slice none 0 0)) := by
  unfold u8Of at h
  split at h
  · cases h; exact .inl rfl
  · cases h; exact .inr ⟨rfl, rfl⟩
  · split at h
    · simp [intsOf, row] at h
    · cases h
  · cases h
theorem u8sOf_frz {h : List Blk} {x : AV} {ms : List (List Int)} (e : u8sOf h x = some ms) : Frz h (List.range h.length) x (.roL 1 (ms.map (AV.roI .u8))) := by
  unfold u8sOf at e
  split at e
  · rename_i es
    intro X X' w ρ v hh hx hv
    have hk := (Frz.same (h := h) (B := List.range h.length) (.roL 1 es)) X X' w ρ v hh hx hv
    simp only [AV.relV, AV.rel] at hk ⊢
    obtain ⟨vs, h1, h2, h3⟩ := hk
    have key : ∀ (es : List AV) (ms : List (List Int)) (vs : List Value), allOf (u8Of []) es = some ms → relAll X' w [] es vs → relAll X' w [] (ms.map (AV.roI .u8)) vs ∧ ms.length = es.length := by
      intro es
      induction es with
      | nil => intro ms vs e h; cases e; exact ⟨h, rfl⟩
      | cons x xs ih =>
        intro ms vs e h
        unfold allOf at e
        obtain ⟨a, ha, e⟩ := Option.bind_eq_some_iff.1 e
        obtain ⟨l, hl, e⟩ := Option.map_eq_some_iff.1 e
        subst e
        simp only [relAll, List.map_cons] at h ⊢
        obtain ⟨c, d, h0, h4, h5⟩ := h
        obtain ⟨h6, h7⟩ := ih l d hl h5
        refine ⟨⟨c, d, h0, ?_, h6⟩, by simp [h7]⟩
        rcases u8Of_ro ha with rfl | ⟨rfl, rfl⟩
        · exact h4
        · simp only [AV.rel, roAt] at h4 ⊢
          exact .inr ⟨rfl, none, h4.1⟩
    obtain ⟨h4, h5⟩ := key es ms vs e h1
    refine ⟨vs, h4, by simpa [h5] using h2, ?_⟩
    intro y hy
    obtain ⟨m, _, rfl⟩ := List.mem_map.1 hy
    exact ⟨rfl, fun _ => rfl⟩
  · cases e
    intro X X' w ρ v _ _ hv
    simp only [AV.relV, AV.rel] at hv ⊢
    exact ⟨[], by simp [relAll], .inr ⟨rfl, none, by rw [show v = .slice none 0 0 by simpa using hv.1]⟩, by intro y hy; simp at hy⟩
  · rename_i b base sz off len cap
    split at e
    · rename_i hs
      obtain ⟨rfl, rfl⟩ := hs
      obtain ⟨ps, hr, e⟩ := Option.bind_eq_some_iff.1 e
      obtain ⟨⟨h1, h2⟩, e⟩ := oguard_some e
      refine Frz.list (es := (ps.drop off).take len) (List.mem_range.2 (row_lt hr)) hr (by simpa using h2) h1 rfl (allOf_frz (fun x l hx => u8Of_frz hx) e) ?_
      intro y hy
      obtain ⟨m, _, rfl⟩ := List.mem_map.1 hy
      rfl
    · cases e
  · cases e

theorem news_ok {P : Program} {f : FuncId} {args args0 : List AV} {h : List Blk} {R : AV → List Blk → Prop} (spec : ACall P f args0 [] R) (hn : ∀ v h', R v h' → v.noRo = true ∧ noRoH h' = true)
    (ha0 : ∀ g, renL g args0 = args0) (hargs : FrzL h (List.range h.length) args args0) {out : Out}
    (hR : ∀ v h', R v h' → match out with
      | .one u h2 => u = v.ren (fun b => h.length + b) ∧ h2 = h ++ h'.map (renB fun b => h.length + b)
      | .cap m g => ∃ c, m ≤ c ∧ g c = (v.ren (fun b => h.length + b), h ++ h'.map (renB fun b => h.length + b)))
    {κ : AV → List Blk → Prop} (hκ : out.all κ) : ACall P f args h κ := by
  refine (ACall.ro spec hn ha0 _ hargs).mono ?_
  rintro v h' ⟨v0, h0, hR0, rfl, rfl⟩
  have := hR v0 h0 hR0
  cases out with
  | one u h2 => obtain ⟨rfl, rfl⟩ := this; exact hκ
  | cap m g => obtain ⟨c, hc, he⟩ := this; have := hκ c hc; rw [he] at this; exact this
theorem u8Of_arr {h : List Blk} {b base off len cap : Nat} : u8Of h (.sl b base 1 off len cap) = match intsOf h (.sl b base 1 off len cap) with
      | some (.u8, l) => some l
      | _ => none := rfl
theorem u8Of_roI (h : List Blk) (l : List Int) : u8Of h (.roI .u8 l) = some l := rfl
theorem u8Of_nil (h : List Blk) : u8Of h (.v (.slice none 0 0)) = some [] := rfl
def isU8 : Option (IntKind × List Int) → Option (List Int)
  | some (.u8, l) => some l
  | _ => none
theorem isU8_some (l : List Int) : isU8 (some (.u8, l)) = some l := rfl
theorem isU8_guard (c : Prop) [Decidable c] (x : Option (IntKind × List Int)) : isU8 (oguard c x) = oguard c (isU8 x) := by
  unfold oguard; split <;> rfl
theorem u8Of_sl (h : List Blk) (b base off len cap : Nat) : u8Of h (.sl b base 1 off len cap) = isU8 (intsOf h (.sl b base 1 off len cap)) := rfl
theorem u8sOf_roL (h : List Blk) (es : List AV) : u8sOf h (.roL 1 es) = allOf (u8Of []) es := rfl
theorem u8sOf_nil (h : List Blk) : u8sOf h (.v (.slice none 0 0)) = some [] := rfl
theorem u8sOf_sl (h : List Blk) (b off len cap : Nat) : u8sOf h (.sl b 0 1 off len cap) = (row h b).bind fun ps => oguard (off + len ≤ ps.length ∧ ps.all AV.solid = true) (allOf (u8Of h) ((ps.drop off).take len)) := rfl
def osel {α : Type} (c : Bool) (x y : α) : α := if c = true then x else y
theorem osel_t {α : Type} (x y : α) : osel true x y = x := rfl
theorem osel_f {α : Type} (x y : α) : osel false x y = y := rfl
theorem osel_pos {α : Type} {c : Bool} (h : c = true) (x y : α) : osel c x y = x := by rw [h]; rfl
theorem osel_neg {α : Type} {c : Bool} (h : c = false) (x y : α) : osel c x y = y := by rw [h]; rfl
end Go.Ax
namespace Go.Ax
def cvK (a b : Kd) (o : Option (List Int)) : Option AV :=
  match a, b with
  | .slice true, .string => o.map fun l => .v (.string (bytesOf l))
  | _, _ => none
theorem cv_ro {P : Program} {h : List Blk} (s d : TypeId) (l : List Int) : convA P h s d (.roI .u8 l) = cvK (kindT P s) (kindT P d) (some l) := by
  unfold convA cvK; cases kindT P s <;> rfl
theorem cv_nil {P : Program} {h : List Blk} (s d : TypeId) : convA P h s d (.v (.slice none 0 0)) = cvK (kindT P s) (kindT P d) (some []) := by
  unfold convA cvK; cases kindT P s <;> rfl
theorem cv_sl {P : Program} {h : List Blk} (s d : TypeId) (b base off len cap : Nat) : convA P h s d (.sl b base 1 off len cap) = cvK (kindT P s) (kindT P d) (isU8 (intsOf h (.sl b base 1 off len cap))) := by
  unfold convA cvK; cases kindT P s <;> try rfl
  rename_i c; cases c <;> cases kindT P d <;> try rfl
  simp only
  cases intsOf h (.sl b base 1 off len cap) with
  | none => rfl
  | some p =>
    obtain ⟨k, l⟩ := p
    cases k <;> rfl
theorem cvK_str (o : Option (List Int)) : cvK (.slice true) .string o = o.map fun l => .v (.string (bytesOf l)) := rfl
def sbK (h : List Blk) (s : ByteArray) (a b : Kd) : Option Out :=
  match a, b with
  | .string, .slice true => some (.cap s.size fun c => (.sl h.length 0 1 0 s.size c, h ++ [some [.arr s.size .u8 (strOf s)]]))
  | _, _ => none
theorem sb_str {P : Program} {h : List Blk} (s d : TypeId) (x : ByteArray) : strBytesA P h s d (.v (.string x)) = sbK h x (kindT P s) (kindT P d) := by
  unfold strBytesA sbK; cases kindT P s <;> cases kindT P d <;> try rfl
  rename_i b; cases b <;> rfl
theorem sb_sl {P : Program} {h : List Blk} (s d : TypeId) (b base sz off len cap : Nat) : strBytesA P h s d (.sl b base sz off len cap) = none := rfl
theorem sbK_str (h : List Blk) (s : ByteArray) : sbK h s .string (.slice true) = some (.cap s.size fun c => (.sl h.length 0 1 0 s.size c, h ++ [some [.arr s.size .u8 (strOf s)]])) := rfl
def mkK (h : List Blk) (x : AV) (same : Bool) (len : Nat) (r : Option (List AV)) (a : Kd) : Option Out :=
  match a with
  | .slice true => if same = true ∧ 0 < len ∧ r.isSome = true then some (.one x h) else none
  | _ => none
theorem mk_sl {P : Program} {h : List Blk} (s d : TypeId) (b base sz off len cap : Nat) : markA P h s d (.sl b base sz off len cap) = mkK h (.sl b base sz off len cap) (decide (s = d)) len (row h b) (kindT P s) := by
  unfold markA mkK
  cases kindT P s <;> try rfl
  rename_i c; cases c <;> simp
theorem mkK_bytes (h : List Blk) (x : AV) (len : Nat) (ps : List AV) : mkK h x true len (some ps) (.slice true) = oguard (0 < len) (some (.one x h)) := by
  unfold mkK oguard; simp
theorem bytesOf_beq (a b : List Int) (h : a = b) : ((bytesOf a).toList == (bytesOf b).toList) = true := by subst h; simp
end Go.Ax
namespace Go.Ax
theorem rep_2 {α : Type} (a : α) : List.replicate 2 a = [a, a] := rfl
theorem rep_3 {α : Type} (a : α) : List.replicate 3 a = [a, a, a] := rfl
theorem rep_4 {α : Type} (a : α) : List.replicate 4 a = [a, a, a, a] := rfl
theorem rep_5 {α : Type} (a : α) : List.replicate 5 a = [a, a, a, a, a] := rfl
theorem rep_6 {α : Type} (a : α) : List.replicate 6 a = [a, a, a, a, a, a] := rfl
end Go.Ax

namespace Go.Ax
theorem weak_pad {C : Cfg} {e : Env} {h : List Blk} (k : IntKind) : Weak C ⟨e, h⟩ ⟨e, h ++ [some [.arr 0 k []]]⟩ := by
  rintro E w0 F n r0 a w _ ⟨ρ, hr⟩
  have hlen := hr.hp.len
  simp only at hlen
  have hext : ∀ (c : Nat) o, ρ[c]? = some o → (ρ ++ [none])[c]? = some o := fun c o h => get_snoc_old h
  have hown : ∀ r, own (ρ ++ [none]) (h ++ [some [.arr 0 k []]]) r → own ρ h r := by
    intro r ho
    rcases own_snoc hr.hp ho with h1 | h1
    · exact h1
    · cases h1
  have hX : ∀ r, r < w.heap.size → XOf E (ρ ++ [none]) (h ++ [some [.arr 0 k []]]) r → XOf E ρ h r := fun r _ h1 => h1.imp id (hown r)
  have hh : HRel (XOf E (ρ ++ [none]) (h ++ [some [.arr 0 k []]])) (ρ ++ [none]) (h ++ [some [.arr 0 k []]]) w := by
    have h0 := hr.hp.virtual (ps := [.arr 0 k []]) (by simp [relAll, AV.rel])
    exact ⟨h0.len, fun b ps hb => (h0.blk b ps hb).keep Keep.refl hX (fun _ _ h => h) (fun _ _ => rfl), h0.inj⟩
  exact ⟨ρ ++ [none], ⟨fun j => relV_keep Keep.refl hX _ ρ _ _ hext (hr.tm j), hr.sz, hr.df, hh, hr.fr, fun r h1 => hr.ow r (hown r h1), fun r h1 => ⟨(hr.el r h1).1, fun h2 => (hr.el r h1).2 (hown r h2)⟩, fun c o h => hext c o (hr.ex c o h)⟩⟩
theorem AWP.merge {C : Cfg} {c : Code} {κ : Exit → St → Prop} {σ : St} (σ' : St) (h : AWP C c (fun ex s => ex = .normal ∧ Weak C s σ') σ) (hk : κ .normal σ') : AWP C c κ σ :=
  fun E w0 F n r0 a w hk0 hd hr => wpIn_mono (h E w0 F n r0 a w hk0 hd hr) fun ex a' w' ⟨s, ⟨e, hw⟩, h2⟩ => ⟨σ', by rw [e]; exact hk, hw E w0 F n r0 a' w' hk0 h2⟩
section
variable {C : Cfg} {k : List KI} {σ : St} {Q : Exit → St → Prop}
theorem odd_merge (hC : C.Good) {id : Nat} {ops : Array Oper} (p : Plan) (σ' : St) (hok : planOk C ops false p (Array.replicate ops.size false) = true)
    (hs : planR C ops p [] σ (fun ex s => ex = .normal ∧ Weak C s σ')) (hq : cont C .normal k σ' Q) (hrd : C.rd = none := by rfl) : oddR C id ops true k σ Q :=
  AWP.merge σ' (oddR_of (k := []) (Q := fun ex s => ex = .normal ∧ Weak C s σ') hC p hok hs hrd) hq
theorem loop_merge {b : Code} (σ' : St) (h : loopR C b [] σ (fun ex s => ex = .normal ∧ Weak C s σ')) (hq : cont C .normal k σ' Q) : loopR C b k σ Q :=
  AWP.merge σ' h hq
end
end Go.Ax

namespace Go.Ax
section
variable {E : Nat → Prop} {w0 w w' : World} {F : Nat → Prop} {n : Nat} {r0 r1 ρ ρ' : List (Option Nat)} {σ σ' : St} {a a' : Act}
theorem Rep.rebase (hr : Rep E w0 F n r0 ρ σ a w) : Rep E w (fun r => own ρ σ.h r ∨ Ax.mark r ∈ a.defers) n r0 ρ σ a w := by
  refine ⟨hr.tm, hr.sz, ?_, hr.hp, Frame.refl, fun r h => .inl (.inl h), fun r h => ⟨Nat.lt_of_lt_of_le (hr.el r h).1 hr.fr.size, (hr.el r h).2⟩, hr.ex⟩
  obtain ⟨Ds, h1, h2, h3⟩ := hr.df
  refine ⟨Ds, h1, h2, fun D hD => ⟨.inl (.inr ?_), (h3 D hD).2⟩⟩
  rw [h1]; exact List.mem_map.2 ⟨D, hD, rfl⟩
theorem Rep.onto (h1 : Rep E w0 F n r0 ρ σ a w) (h2 : Rep E w (fun r => own ρ σ.h r ∨ Ax.mark r ∈ a.defers) n r1 ρ' σ' a' w') : Rep E w0 F n r1 ρ' σ' a' w' := by
  have hF : ∀ r, r < w0.heap.size → (own ρ σ.h r ∨ Ax.mark r ∈ a.defers) → F r := by
    rintro r hlt (h | h)
    · rcases h1.ow r h with h | h
      · exact h
      · omega
    · obtain ⟨Ds, h3, _, h4⟩ := h1.df
      rw [h3] at h
      obtain ⟨D, hD, he⟩ := List.mem_map.1 h
      have hDr : D = r := by
        have := congrArg Deferred.target he
        simpa [Ax.mark] using this
      subst hDr
      rcases (h4 D hD).1 with h | h
      · exact h
      · omega
  have hF2 : ∀ r, ((own ρ σ.h r ∨ Ax.mark r ∈ a.defers) ∨ w.heap.size ≤ r) → F r ∨ w0.heap.size ≤ r := by
    rintro r (h | h)
    · rcases Nat.lt_or_ge r w0.heap.size with h' | h'
      · exact .inl (hF r h' h)
      · exact .inr h'
    · exact .inr (Nat.le_trans h1.fr.size h)
  refine ⟨h2.tm, h2.sz, ?_, h2.hp, h1.fr.trans h2.fr hF, fun r h => hF2 r (h2.ow r h), fun r h => ⟨(h1.el r h).1, (h2.el r h).2⟩, h2.ex⟩
  obtain ⟨Ds, h3, h4, h5⟩ := h2.df
  exact ⟨Ds, h3, h4, fun D hD => ⟨hF2 D (h5 D hD).1, (h5 D hD).2⟩⟩
theorem Rep.others (h1 : Rep E w0 F n r0 ρ σ a w) (h2 : Rep E w (fun r => own ρ σ.h r ∨ Ax.mark r ∈ a.defers) n r1 ρ' σ' a' w') {l : Nat} {o : Obj} (hl : w.heap[l]? = some o) (ho : isC o = false)
    (hn : ∀ o', o ≠ .deferred o') : w'.heap[l]? = some o := by
  rw [h2.fr.same l (Array.getElem?_eq_some_iff.1 hl).1 ?_]
  · exact hl
  · rintro (h | h)
    · obtain ⟨c, e, fz, h5⟩ := h1.hp.own_cells h
      rw [hl] at h5; cases h5; cases ho
    · obtain ⟨Ds, h3, _, h4⟩ := h1.df
      rw [h3] at h
      obtain ⟨D, hD, he⟩ := List.mem_map.1 h
      have hDr : D = l := by
        have := congrArg Deferred.target he
        simpa [Ax.mark] using this
      subst hDr
      have := (h4 D hD).2
      rw [hl] at this; cases this; exact hn _ rfl
theorem Rep.fresh (hr : Rep E w0 F n r0 ρ σ a w) : Rep E w0 F n r0 ρ σ { tmps := a.tmps, defers := [] } w := ⟨hr.tm, hr.sz, Marks.none rfl, hr.hp, hr.fr, hr.ow, hr.el, hr.ex⟩
theorem Rep.blind (hr : Rep E w0 F n r0 ρ σ a w) {tm : Array Value} (ht : tm.size = n) : Rep E w0 F n r0 ρ ⟨envL [], σ.h⟩ { tmps := tm, defers := [] } w :=
  ⟨fun i => by show AV.relV _ _ _ .any _; simp only [AV.relV], ht, Marks.none rfl, hr.hp, hr.fr, hr.ow, hr.el, hr.ex⟩
def putAll : Env → List Nat → List AV → Env
  | e, p :: ps, v :: vs => putAll (put e (some p) v) ps vs
  | e, _, _ => e
theorem Rep.putAll : ∀ (ps : List Nat) (vs : List AV) (zs : List Value) (e : Env) (h : List Blk) (a : Act), Rep E w0 F n r0 ρ ⟨e, h⟩ a w → (∀ p ∈ ps, p < n) → relVs (XOf E ρ h) w ρ vs zs →
    Rep E w0 F n r0 ρ ⟨Ax.putAll e ps vs, h⟩ { tmps := (ps.zip zs).foldl (fun t (p, v) => t.setIfInBounds p v) a.tmps, defers := a.defers } w
  | [], vs, zs, e, h, a, hr, _, _ => hr
  | p :: ps, [], zs, e, h, a, hr, _, hv => by
    simp only [relVs] at hv
    subst hv
    exact hr
  | p :: ps, v :: vs, zs, e, h, a, hr, hp, hv => by
    simp only [relVs] at hv
    obtain ⟨z, zs, rfl, h1, h2⟩ := hv
    have h3 := hr.put (d := some p) (z := z) (by rintro t ⟨⟩; exact hp p (by simp)) h1
    exact Rep.putAll ps vs zs _ _ _ h3 (fun q hq => hp q (by simp [hq])) h2
end

def SeqA (P : Program) (gf : FuncId) (caps : List AV) (xs : List (List AV)) : Prop :=
  hasBody P gf = true ∧ ∀ (X : Nat → Prop) (w : World) (lb : Array Value), relVs X w [] caps lb.toList →
    ∃ enc : Nat → Array Value, (∀ i, i < xs.length → relVs X w [] (xs.getD i []) (enc i).toList) ∧
      ∀ (l : Nat) (J : Nat → World → Prop) (W : World), (∀ i W', J i W' → KeepC X X w W') → (∀ i W', J i W' → J i W'.drew) →
        (∀ i, i < xs.length → ∀ W', J i W' → YieldAt Fence.wide 0 P l (enc i) W' fun en W'' => en = .returned (.bool true) ∧ J (i + 1) W'') → J 0 W →
        CallsIn Fence.wide 0 P gf (#[.func (.yield l) #[] #[]] ++ lb) W fun en W' => (∃ v, en = .returned v) ∧ J xs.length W'

theorem Frame.keepC {F X : Nat → Prop} {w w' : World} (h : Frame F w w') (hx : ∀ r, F r → X r) : KeepC X X w w' :=
  ⟨fun a vs hc hn => ⟨hc.keep (h.mono hx).keep hn, hn⟩, h.room⟩

theorem renL_far {ρ : List (Option Nat)} {X : Nat → Prop} {w : World} {ps : List AV} {cs : List Value} (hr : ∀ f, renL f ps = ps) (h : relVs X w ρ ps cs) : relVs X w [] ps cs := by
  refine relVs_ren (f := fun _ => ρ.length) ?_ ps cs (by rw [hr]; exact h)
  intro b o hb
  rw [List.getElem?_eq_none (Nat.le_refl _)] at hb; cases hb

section
variable {C : Cfg}
def Cfg.inRd (C : Cfg) (k l : Nat) : Cfg := { C with k := k, rd := some l }
theorem Cfg.Good.inRd (hC : C.Good) (k l : Nat) : (C.inRd k l).Good := hC
theorem drawOk_rd (k l : Nat) : ∀ c : Code, drawOk (C.inRd k 0) c = drawOk (C.inRd k l) c
  | .region .. => rfl
  | .seq a b => by simp only [drawOk, drawOk_rd k l a, drawOk_rd k l b]
  | .cond _ a b => by simp only [drawOk, drawOk_rd k l a, drawOk_rd k l b]
  | .block _ a => by simp only [drawOk, drawOk_rd k l a]
  | .loop a => by simp only [drawOk, drawOk_rd k l a]
  | .scope a => by simp only [drawOk, drawOk_rd k l a]
  | .skip | .exit _ | .ret | .rangeFunc .. | .label _ | .goto _ | .refuse _ => rfl

theorem HRel.noRo {X X' : Nat → Prop} {ρ : List (Option Nat)} {h : List Blk} {w : World} (hn : noRoH h = true) (hh : HRel X ρ h w) : HRel X' ρ h w := by
  refine ⟨hh.len, ?_, hh.inj⟩
  intro b ps hb
  have h0 : noRoL ps = true := by
    unfold noRoH at hn
    rw [List.all_eq_true] at hn
    exact hn _ (List.mem_of_getElem? hb)
  have h1 := hh.blk b ps hb
  unfold BRel at h1 ⊢
  split at h1
  · obtain ⟨c, e, fz, h2, h3, cs, post, h4, h5⟩ := h1
    exact ⟨c, e, fz, h2, h3, cs, post, h4, relAll_noRo ps _ cs h0 h5⟩
  · exact relAll_noRo ps _ [] h0 h1
  · exact h1.elim
def FrzAll (h : List Blk) (B : List Nat) (ps qs : List AV) : Prop :=
  ∀ (X X' : Nat → Prop) (w : World) (ρ : List (Option Nat)) (vs : List Value), HRel X ρ h w → (∀ r, X' r → X r ∧ ∀ b ∈ B, ρ[b]? ≠ some (some r)) → relVs X w ρ ps vs → relVs X' w ρ qs vs
theorem FrzAll.nil {h : List Blk} {B : List Nat} : FrzAll h B [] [] := fun _ _ _ _ vs _ _ hv => by simpa only [relVs] using hv
theorem FrzAll.cons {h : List Blk} {B : List Nat} {p q : AV} {ps qs : List AV} (h1 : Frz h B p q) (h2 : FrzAll h B ps qs) : FrzAll h B (p :: ps) (q :: qs) := by
  intro X X' w ρ vs hh hx hv
  simp only [relVs] at hv ⊢
  obtain ⟨a, b, rfl, hp, hq⟩ := hv
  exact ⟨a, b, rfl, h1 X X' w ρ a hh hx hp, h2 X X' w ρ b hh hx hq⟩
theorem AWP.rangeF (hC : C.Good) (hrd : C.rd = none) {g : Operand} {ps : Array Tmp} {assign body : Code} {κ : Exit → St → Prop} {e : Env} {h : List Blk} {gf : FuncId} {caps caps' : List AV} {xs : List (List AV)} (B : List Nat) (S : Nat → List Blk)
    (hB : ∀ b ∈ B, live h b) (hfr : FrzAll h B caps caps') (hno : noRoH (S xs.length) = true)
    (hg : ev e g = .fn (.func gf) [] caps) (hcaps : ∀ f, renL f caps' = caps') (hxs : ∀ i, ∀ f, renL f (xs.getD i []) = xs.getD i []) (hps : ∀ i, i < xs.length → (xs.getD i []).length = ps.size)
    (hseq : SeqA C.P gf caps' xs) (h0 : S 0 = kill h B) (hok : drawOk (C.inRd h.length 0) assign = true ∧ drawOk (C.inRd h.length 0) body = true)
    (hround : ∀ i, i < xs.length → ∀ l, exec (C.inRd h.length l) (.seq assign body) ⟨putAll e ps.toList (xs.getD i []), S i⟩ (fun ex σ' => ex = .normal ∧ Weak (C.inRd h.length l) σ' ⟨envL [], S (i + 1)⟩))
    (hdone : κ .normal ⟨e, S xs.length⟩) : AWP C (.rangeFunc g ps assign body) κ ⟨e, h⟩ := by
  intro E w0 F n r0 a w hk0 hd hr
  obtain ⟨ρ0, hr⟩ := hr
  have hfe : C.fence = Fence.wide := by unfold Cfg.fence; rw [hrd]; rfl
  rw [hfe]
  simp only [Code.dstOk, Bool.and_eq_true, List.all_eq_true, decide_eq_true_eq] at hd
  obtain ⟨hdp, hda, hdb⟩ := hd
  have hgv := hr.ev g
  rw [hg] at hgv
  simp only [AV.relV, AV.rel] at hgv
  obtain ⟨f1, lb, hge, hf1, hlb⟩ := hgv
  simp only [relVs] at hf1
  have hge : a.eval g = .func (.func gf) f1 lb := by injection hge
  obtain rfl : f1 = #[] := Array.toList_inj.1 hf1
  obtain ⟨hbody, hseq⟩ := hseq
  have hlen0 : ρ0.length = h.length := hr.hp.len
  let E' : Nat → Prop := fun r => E r ∧ ∀ b ∈ B, ρ0[b]? ≠ some (some r)
  have hownk : ∀ r, own ρ0 (kill h B) r → own ρ0 h r ∧ ∀ b ∈ B, ρ0[b]? ≠ some (some r) := by
    rintro r ⟨b, hb, ps, hp⟩
    have hbB : b ∉ B := fun hbB => kill_in B h b hbB ps hp
    rw [kill_out B h b hbB] at hp
    refine ⟨⟨b, hb, ps, hp⟩, ?_⟩
    intro b' hb' he
    exact hbB (hr.hp.inj b b' r hb he ⟨ps, hp⟩ (hB b' hb') ▸ hb')
  have hX : ∀ r, XOf E' ρ0 (kill h B) r → XOf E ρ0 h r ∧ ∀ b ∈ B, ρ0[b]? ≠ some (some r) := by
    rintro r (hr | hr)
    · exact ⟨.inl hr.1, hr.2⟩
    · exact ⟨.inr (hownk r hr).1, (hownk r hr).2⟩
  have hhk : HRel (XOf E' ρ0 (kill h B)) ρ0 (kill h B) w := by
    refine ⟨by rw [kill_len]; exact hr.hp.len, ?_, ?_⟩
    · intro b ps hp
      have hbB : b ∉ B := fun hbB => kill_in B h b hbB ps hp
      rw [kill_out B h b hbB] at hp
      exact (hr.hp.blk b ps hp).keep Keep.refl (fun r _ hr => (hX r hr).1) (fun _ _ h => h) (fun _ _ => rfl)
    · rintro b b' r hb hb' ⟨ps, hp⟩ ⟨ps', hp'⟩
      have hbB : b ∉ B := fun hbB => kill_in B h b hbB ps hp
      have hbB' : b' ∉ B := fun hbB => kill_in B h b' hbB ps' hp'
      rw [kill_out B h _ hbB] at hp
      rw [kill_out B h _ hbB'] at hp'
      exact hr.hp.inj b b' r hb hb' ⟨ps, hp⟩ ⟨ps', hp'⟩
  obtain ⟨enc, henc, hseq⟩ := hseq (XOf E' ρ0 (kill h B)) w lb (renL_far hcaps (hfr _ _ w ρ0 _ hr.hp hX hlb))
  refine wpIn_rangeFunc ?_
  intro fn hfn
  show ∃ (l : Nat) (mark : List Deferred) (w₁ : World) (d : Deferred) (w₁' : World) (f : FuncId) (args : Array Value) (w₂ : World),
      (Instr.enterLoop fn a.tmps ps assign body none).run C.P w = .ok (l, mark) w₁ ∧ _
  obtain ⟨rec, hrec⟩ : ∃ rec : LoopState → Option Code → Loop, rec = fun st pe => { state := st, pending := pe, fn, tmps := a.tmps, params := ps, assign, body, defers := w.heap.size } := ⟨_, rfl⟩
  obtain ⟨W1, hW1⟩ : ∃ W1, (w.alloc (.deferred (some []))).alloc (.loop (rec .ready none)) = W1 := ⟨_, rfl⟩
  have hL1 : W1.heap[w.heap.size + 1]? = some (.loop (rec .ready none)) := by
    rw [← hW1]; have := World.alloc_heap_new (w.alloc (.deferred (some []))) (.loop (rec .ready none)); rwa [World.size_alloc] at this
  have hK1 : W1.heap[w.heap.size]? = some (.deferred (some [])) := by
    rw [← hW1, heap_alloc_old _ _ _ (by simp)]; exact heap_alloc_new w _
  have hbase : Rep E' w (own ρ0 (kill h B)) n ρ0 ρ0 ⟨envL [], kill h B⟩ { tmps := a.tmps, defers := [] } w :=
    ⟨fun i => by show AV.relV _ _ _ .any _; simp only [AV.relV], hr.sz, Marks.none rfl, hhk, Frame.refl, fun r h => .inl h, fun r h => ⟨Nat.lt_of_lt_of_le (hr.el r h.1).1 hr.fr.size, fun h2 => (hr.el r h.1).2 (hownk r h2).1⟩, fun _ _ h => h⟩
  let J : Nat → World → Prop := fun i W => (∃ ρ, Rep E' w (own ρ0 (kill h B)) n ρ0 ρ ⟨envL [], S i⟩ { tmps := a.tmps, defers := [] } W) ∧
    W.heap[w.heap.size + 1]? = some (.loop (rec .ready none)) ∧ W.heap[w.heap.size]? = some (.deferred (some []))
  have hXk : ∀ {ρ i W}, Rep E' w (own ρ0 (kill h B)) n ρ0 ρ ⟨envL [], S i⟩ { tmps := a.tmps, defers := [] } W → ∀ r, r < w.heap.size → XOf E' ρ (S i) r → XOf E' ρ0 (kill h B) r := by
    rintro ρ i W hR r hlt (h1 | h1)
    · exact .inl h1
    · rcases hR.ow r h1 with h2 | h2
      · exact .inr h2
      · omega
  refine ⟨w.heap.size + 1, [{ target := .collected w.heap.size, args := #[] }], W1, { target := .fn (.func gf) lb, args := #[.func (.yield (w.heap.size + 1)) #[] #[]] }, W1, gf,
    #[.func (.yield (w.heap.size + 1)) #[] #[]] ++ lb, W1, ?_, ?_, ?_, ?_, nofun, ?_⟩
  · rw [← hW1, hrec]; exact run_enterLoop_outer _ _ _ _ _
  · simp only [resolve, hge]
    simp [go_sem]
  · intro f' _; trivial
  · simp [invoke, go_sem, call_run hbody]
  · refine (hseq (w.heap.size + 1) J W1 ?_ ?_ ?_ ?_).mono ?_
    · rintro i W ⟨⟨ρ, hR⟩, _⟩
      exact (hR.fr.keepC (fun r h => Or.inr h))
    · rintro i W ⟨⟨ρ, hR⟩, h1, h2⟩
      exact ⟨⟨ρ, hR.drew⟩, h1, h2⟩
    · rintro i hi W ⟨⟨ρ, hR⟩, hl, hk⟩
      have hxi := henc i hi
      have hsz : (enc i).size = ps.size := by
        have := relVs_len hxi
        rw [hps i hi] at this; simpa using this
      have hy := run_yield (P := C.P) (args := enc i) hl (by rw [hrec]; exact hsz)
      rw [hrec] at hy
      refine ⟨fn, _, assign, body, hy, roundIn_of_wpIn trivial ?_⟩
      -- the state in which the round begins
      have kk : Keep (XOf E' ρ0 (kill h B)) w W := (hR.fr.mono (fun r h => Or.inr h)).keep
      have hA : Rep E' w (own ρ0 (kill h B)) n ρ0 ρ ⟨e, S i⟩ { tmps := a.tmps, defers := [] } W :=
        ⟨fun j => relV_keep kk (hXk hR) _ _ _ _ hR.ex (relV_keep Keep.refl (fun r _ h => (hX r h).1) _ _ _ _ (fun _ _ h => h) (hr.tm j)), hR.sz, Marks.none rfl, hR.hp, hR.fr, hR.ow, hR.el, hR.ex⟩
      have hvs : relVs (XOf E' ρ (S i)) W ρ (xs.getD i []) (enc i).toList := relVs_keep kk (hXk hR) _ [] ρ _ (by simp) hxi
      have hB := Rep.putAll ps.toList _ _ e (S i) _ hA hdp hvs
      have hzip : (ps.zip (enc i)).foldl (fun t (p, v) => t.setIfInBounds p v) a.tmps = (ps.toList.zip (enc i).toList).foldl (fun t (p, v) => t.setIfInBounds p v) a.tmps := by
        rw [← Array.foldl_toList, Array.toList_zip]
      rw [hzip]
      have hex := hround i hi (w.heap.size + 1)
      unfold exec at hex
      have hfw : (C.inRd h.length (w.heap.size + 1)).fence = Fence.wide.inRound (w.heap.size + 1) := rfl
      have hb1 := hB.rebase
      have hw1 := exec_wp (hC.inRd h.length (w.heap.size + 1)) assign _ _ (by rw [← drawOk_rd]; exact hok.1) hex E' W _ n ρ0 _ W hlen0 hda ⟨ρ, hb1⟩
      rw [hfw] at hw1
      refine wpIn_mono hw1 ?_
      rintro ex1 a1 w1 ⟨σ1, hκ1, ρ1, hr1⟩
      cases ex1 with
      | normal =>
        have hl1 : w1.heap[w.heap.size + 1]? = some (.loop (rec .ready none)) := hB.others hr1 hl rfl (by simp)
        have hk1 : w1.heap[w.heap.size]? = some (.deferred (some [])) := by
          rw [hr1.fr.same _ (Array.getElem?_eq_some_iff.1 hk).1 ?_]
          · exact hk
          · rintro (h1 | h1)
            · obtain ⟨c, e, fz, h5⟩ := hB.hp.own_cells h1
              rw [hk] at h5; cases h5
            · cases h1
        have hr1' := hB.onto hr1
        refine ⟨_, run_beginRound hl1 (by rw [hrec]), ?_⟩
        have hlt1 := (Array.getElem?_eq_some_iff.1 hl1).1
        obtain ⟨w2, hw2⟩ : ∃ w2, w1.putObj (w.heap.size + 1) (.loop { rec .ready none with state := .busy }) = w2 := ⟨_, rfl⟩
        have hl2 : w2.heap[w.heap.size + 1]? = some (.loop { rec .ready none with state := .busy }) := by rw [← hw2]; exact World.putObj_heap_same hlt1
        have hk2 : w2.heap[w.heap.size]? = some (.deferred (some [])) := by rw [← hw2]; exact (World.putObj_heap_other (by omega)).trans hk1
        have hr2 : Rep E' w (own ρ0 (kill h B)) n ρ0 ρ1 σ1 a1 w2 := by
          rw [← hw2]
          refine hr1'.putObj _ hl1 rfl (.inr (by omega)) rfl ?_
          obtain ⟨Ds, d1, d2, d3⟩ := hr1'.df
          refine ⟨Ds, d1, d2, fun D hD => ⟨(d3 D hD).1, ?_⟩⟩
          rw [putObj_at _ ?_]
          · exact (d3 D hD).2
          · rintro rfl
            have := (d3 _ hD).2
            rw [hl1] at this; cases this
        rw [hw2]
        have hw3 := exec_wp (hC.inRd h.length (w.heap.size + 1)) body _ _ (by rw [← drawOk_rd]; exact hok.2) hκ1 E' w2 _ n ρ0 _ w2 hlen0 hdb ⟨ρ1, hr2.rebase⟩
        rw [hfw] at hw3
        refine wpIn_mono hw3 ?_
        rintro ex3 a3 w3 ⟨σ3, ⟨rfl, hwk⟩, hr3⟩
        obtain ⟨ρ3, hr3⟩ := hwk E' w2 _ n ρ0 a3 w3 hlen0 hr3
        have hl3 : w3.heap[w.heap.size + 1]? = some (.loop { rec .ready none with state := .busy }) := hr2.others hr3 hl2 rfl (by simp)
        have hr3' := hr2.onto hr3
        have hk3 : w3.heap[w.heap.size]? = some (.deferred (some [])) := by
          rw [hr3.fr.same _ (Array.getElem?_eq_some_iff.1 hk2).1 ?_]
          · exact hk2
          · rintro (h1 | h1)
            · obtain ⟨c, e, fz, h5⟩ := hr2.hp.own_cells h1
              rw [hk2] at h5; cases h5
            · obtain ⟨Ds, d1, d2, d3⟩ := hr1.df
              rw [d1] at h1
              obtain ⟨D, hD, he⟩ := List.mem_map.1 h1
              have hDr : D = w.heap.size := by
                have := congrArg Deferred.target he
                simpa [Ax.mark] using this
              subst hDr
              rcases (d3 _ hD).1 with (h1 | h1) | h1
              · obtain ⟨c, e, fz, h5⟩ := hB.hp.own_cells h1
                rw [hk] at h5; cases h5
              · cases h1
              · have := (Array.getElem?_eq_some_iff.1 hk).1
                omega
        refine ⟨_, _, run_endRound none hl3, rfl, ⟨ρ3, ?_⟩, ?_, ?_⟩
        · exact (hr3'.fresh.putObj _ hl3 rfl (.inr (by omega)) rfl (Marks.none rfl)).blind (by simpa using hr.sz)
        · have := World.putObj_heap_same (o := .loop (rec .ready none)) (Array.getElem?_eq_some_iff.1 hl3).1
          rw [hrec] at this ⊢
          simpa using this
        · exact (World.putObj_heap_other (by omega)).trans hk3
      | _ => first | exact absurd hκ1.1 (by simp) | exact hκ1.elim
    · refine ⟨⟨ρ0, ?_⟩, hL1, hK1⟩
      rw [← hW1, h0]
      exact ((hbase.allocO _).allocO _).blind (by simpa using hr.sz)
    · rintro en W2 ⟨⟨v, rfl⟩, ⟨ρ2, hr2⟩, hl, hk⟩
      refine ⟨none, _, by have := run_endLoop (P := C.P) hl (by rw [hrec]; simp); rw [hrec] at this; exact this, ?_⟩
      refine ⟨_, hdone, ρ2, ?_⟩
      have h3 : Rep E w0 F n r0 ρ2 ⟨e, S xs.length⟩ a W2 := hr.step (hr2.fr.mono fun r h => (hownk r h).1) hr2.ex (fun r h => (hr2.ow r h).imp (fun h => (hownk r h).1) id) (hr2.hp.noRo hno)
      refine h3.putObj _ hl rfl (.inr (by have := hr.fr.size; omega)) rfl ?_
      obtain ⟨Ds, d1, d2, d3⟩ := h3.df
      obtain ⟨Ds0, e1, e2, e3⟩ := hr.df
      have hDs : Ds = Ds0 := by
        have : Ds.map Ax.mark = Ds0.map Ax.mark := d1.symm.trans e1
        refine (List.map_inj_right ?_).1 this
        intro x y hxy
        have := congrArg Deferred.target hxy
        simpa [Ax.mark] using this
      subst hDs
      refine ⟨w.heap.size :: Ds, ?_, List.nodup_cons.2 ⟨?_, d2⟩, ?_⟩
      · simp only [List.map_cons, ← e1]; rfl
      · intro hm
        have := (Array.getElem?_eq_some_iff.1 (e3 _ hm).2).1
        omega
      · intro D hD
        rw [List.mem_cons] at hD
        have hne : D ≠ w.heap.size + 1 := by
          rintro rfl
          rcases hD with hD | hD
          · omega
          · have := (Array.getElem?_eq_some_iff.1 (e3 _ hD).2).1
            omega
        rw [World.putObj_heap_other hne]
        rcases hD with rfl | hD
        · exact ⟨.inr hr.fr.size, hk⟩
        · exact d3 D hD
end
end Go.Ax
