/- Part of the proof. -/
import Derived.Test.YtfnfmbikooeiaaaAb
import Derived.Below
import Derived.ChangeSame
import Derived.OpenShut
import Derived.JoinedCond
import Derived.ChangeSlices
import Derived.KernelRfl
import Derived.Test.YtfnfmbikooeiaaaChecked
set_option linter.unusedSimpArgs false
set_option linter.unusedVariables false
set_option maxHeartbeats 4000000
set_option maxRecDepth 100000
namespace Go.Ax
section
variable {C : Cfg} {k : List KI} {Q : Exit → St → Prop}
def rangeR (C : Cfg) (g : Operand) (ps : Array Tmp) (a b : Code) (k : List KI) (σ : St) (Q : Exit → St → Prop) : Prop := AWP C (.rangeFunc g ps a b) (contK C k Q) σ
theorem run_range (g : Operand) (ps : Array Tmp) (a b : Code) (σ : St) : run C (.rangeFunc g ps a b) k σ Q = rangeR C g ps a b k σ Q := rfl
theorem rangeR_of (hC : C.Good) {g : Operand} {ps : Array Tmp} {assign body : Code} {e : Env} {h : List Blk} {gf : FuncId} {caps caps' : List AV} {xs : List (List AV)} (B : List Nat) (S : Nat → List Blk)
    (hseq : SeqA C.P gf caps' xs) (hg : ev e g = .fn (.func gf) [] caps) (hB : ∀ b ∈ B, live h b) (hfr : FrzL h B caps caps') (hno : noRoH (S xs.length) = true)
    (hcaps : ∀ f, renL f caps' = caps') (hxs : ∀ i, ∀ f, renL f (xs.getD i []) = xs.getD i []) (hps : ∀ i, i < xs.length → (xs.getD i []).length = ps.size)
    (h0 : S 0 = kill h B) (hok : drawOk (C.inRd h.length 0) assign = true ∧ drawOk (C.inRd h.length 0) body = true)
    (hround : ∀ i, i < xs.length → ∀ l, run (C.inRd h.length l) (.seq assign body) [] ⟨putAll e ps.toList (xs.getD i []), S i⟩ (fun ex σ' => ex = .normal ∧ Weak (C.inRd h.length l) σ' ⟨envL [], S (i + 1)⟩))
    (hdone : cont C .normal k ⟨e, S xs.length⟩ Q) (hrd : C.rd = none := by rfl) : rangeR C g ps assign body k ⟨e, h⟩ Q :=
  AWP.rangeF hC hrd B S hB (fun _ _ _ _ _ hh hx hv => FrzL.relVs hh hx hfr hv) hno hg hcaps hxs hps hseq h0 hok hround hdone
theorem putAll_one (e : Env) (p : Nat) (v : AV) : putAll e [p] [v] = put e (some p) v := rfl
end
theorem Frz.ptr {h : List Blk} {B : List Nat} {b : Nat} {p : AV} (hb : b ∈ B) (he : row h b = some [p]) (hr : ∀ f, p.ren f = p) : Frz h B (.ptr b 0 0) (.rop p) := by
  intro X X' w ρ v hh hx hv
  simp only [AV.relV, AV.rel] at hv
  obtain ⟨r, hr1, hv⟩ := hv
  have hv : v = .pointer (some ⟨r, 0, none⟩) := by simpa using hv
  subst hv
  have h1 := hh.blk b _ (row_some he)
  rw [hr1] at h1
  obtain ⟨c, e, fz, h2, h3, cs, post, h4, h5⟩ := h1
  rw [relAll_one] at h5
  simp only [AV.relV, AV.rel]
  have h6 : AV.rel X w [] p cs := by
    refine rel_ren (f := fun _ => ρ.length) ?_ p cs (by rw [hr]; exact h5)
    intro b o hb
    rw [List.getElem?_eq_none (Nat.le_refl _)] at hb; cases hb
  refine ⟨⟨r, 0, none⟩, cs, rfl, rfl, ?_, rel_keep Keep.refl (fun r _ h => (hx r h).1) p [] [] cs (fun _ _ h => h) h6, ⟨c, e, fz, h2, [], post, by simpa using h4, rfl⟩⟩
  intro hX
  exact (hx r hX).2 b hb hr1
end Go.Ax

namespace Go.Ax
section
variable {C : Cfg} {k : List KI} {σ : St} {Q : Exit → St → Prop}
def roundsA (C : Cfg) (b : Code) (k : List KI) (Q : Exit → St → Prop) : Nat → St → Prop
  | 0, _ => False
  | m + 1, σ => run C b [] σ (fun ex σ' => thenK (roundsA C b k Q m) (fun ex σ' => cont C ex k σ' Q) ex σ')
theorem roundsA_succ (b : Code) (m : Nat) (σ : St) : roundsA C b k Q (m + 1) σ = run C b [] σ (fun ex σ' => thenK (roundsA C b k Q m) (fun ex σ' => cont C ex k σ' Q) ex σ') := rfl
theorem loop_rounds (hC : C.Good) {b : Code} (m : Nat) (hb : drawOk C b = true) (h : roundsA C b k Q m σ) : loopR C b k σ Q := by
  refine loopR_of hC (α := { x : Nat × St // roundsA C b k Q x.1 x.2 }) (fun x => x.1.2) (fun x => x.1.1) ⟨(m, σ), h⟩ hb (Weak.refl _ _) ?_
  rintro ⟨⟨m, σ⟩, h⟩
  cases m with
  | zero => exact h.elim
  | succ m =>
    refine run_mono ?_ h
    intro ex σ' h'
    cases ex with
    | normal => exact ⟨⟨(m, σ'), h'⟩, Nat.lt_succ_self m, Weak.refl _ _⟩
    | _ => exact h'
theorem loop_times (hC : C.Good) {b : Code} (m : Nat) (hb : drawOk C b = true)
    (h : ∀ R : Nat → St → Prop, (∀ m σ, R (m + 1) σ = run C b [] σ (fun ex σ' => thenK (R m) (fun ex σ' => cont C ex k σ' Q) ex σ')) → R m σ) : loopR C b k σ Q :=
  loop_rounds hC m hb (h (roundsA C b k Q) (fun m σ => roundsA_succ b m σ))
end
end Go.Ax

namespace Go.Ax
theorem weak_frz {C : Cfg} {e : Env} {h : List Blk} {L : List (Nat × AV)} (B : List Nat) (hL : ∀ p ∈ L, Frz h B (get e p.1) p.2) (hB : ∀ b ∈ B, live h b) : Weak C ⟨e, h⟩ ⟨envL L, kill h B⟩ := by
  intro E w0 F n r0 a w hk hr
  obtain ⟨ρ, hr⟩ := hr
  have hownk : ∀ r, own ρ (kill h B) r → own ρ h r ∧ ∀ b ∈ B, ρ[b]? ≠ some (some r) := by
    rintro r ⟨b, hb, ps, hp⟩
    have hbB : b ∉ B := fun hbB => kill_in B h b hbB ps hp
    rw [kill_out B h b hbB] at hp
    refine ⟨⟨b, hb, ps, hp⟩, ?_⟩
    intro b' hb' he
    exact hbB (hr.hp.inj b b' r hb he ⟨ps, hp⟩ (hB b' hb') ▸ hb')
  have hX : ∀ r, XOf E ρ (kill h B) r → XOf E ρ h r ∧ ∀ b ∈ B, ρ[b]? ≠ some (some r) := by
    rintro r (h1 | h1)
    · exact ⟨.inl h1, fun b hb he => (hr.el r h1).2 ⟨b, he, hB b hb⟩⟩
    · exact ⟨.inr (hownk r h1).1, (hownk r h1).2⟩
  have hhk : HRel (XOf E ρ (kill h B)) ρ (kill h B) w := by
    refine ⟨by rw [kill_len]; exact hr.hp.len, ?_, ?_⟩
    · intro b ps hp
      have hbB : b ∉ B := fun hbB => kill_in B h b hbB ps hp
      rw [kill_out B h b hbB] at hp
      exact (hr.hp.blk b ps hp).keep Keep.refl (fun r _ hr => (hX r hr).1) (fun _ _ h => h) (fun _ _ => rfl)
    · rintro b b' r hb hb' ⟨ps, hp⟩ ⟨ps', hp'⟩
      have hbB : b ∉ B := fun hbB => kill_in B h b hbB ps hp
      have hbB' : b' ∉ B := fun hbB => kill_in B h b' hbB ps' hp'
      rw [kill_out B h _ hbB] at hp
      rw [kill_out B h _ hbB'] at hp'
      exact hr.hp.inj b b' r hb hb' ⟨ps, hp⟩ ⟨ps', hp'⟩
  refine ⟨ρ, ⟨fun i => ?_, hr.sz, hr.df, hhk, hr.fr, fun r h => hr.ow r (hownk r h).1, fun r h => ⟨(hr.el r h).1, fun h2 => (hr.el r h).2 (hownk r h2).1⟩, hr.ex⟩⟩
  rcases get_envL_mem L i with h1 | h1
  · simp only [h1, AV.relV]
  · exact hL _ h1 (XOf E ρ h) (XOf E ρ (kill h B)) w ρ _ hr.hp hX (hr.tm i)
theorem Frz.agg {h : List Blk} {B : List Nat} {b : Nat} {ps : List AV} (hb : b ∈ B) (he : row h b = some ps) (hr : ∀ f, renL f ps = ps) : Frz h B (.ptr b 0 0) (.rop (.agg ps)) := by
  intro X X' w ρ v hh hx hv
  simp only [AV.relV, AV.rel] at hv
  obtain ⟨r, hr1, hv⟩ := hv
  have hv : v = .pointer (some ⟨r, 0, none⟩) := by simpa using hv
  subst hv
  have h1 := hh.blk b _ (row_some he)
  rw [hr1] at h1
  obtain ⟨c, e, fz, h2, h3, cs, post, h4, h5⟩ := h1
  simp only [AV.relV, AV.rel]
  have h6 : relAll X w [] ps cs := by
    refine relL_ren (f := fun _ => ρ.length) ?_ ps cs (by rw [hr]; exact h5)
    intro b o hb
    rw [List.getElem?_eq_none (Nat.le_refl _)] at hb; cases hb
  refine ⟨⟨r, 0, none⟩, cs, rfl, rfl, ?_, relAll_keep Keep.refl (fun r _ h => (hx r h).1) ps [] [] cs (fun _ _ h => h) h6, ⟨c, e, fz, h2, [], post, by simpa using h4, rfl⟩⟩
  intro hX
  exact (hx r hX).2 b hb hr1
section
variable {C : Cfg} {k : List KI} {Q : Exit → St → Prop}
def Cfg.withRo (C : Cfg) (ro : List Nat) : Cfg := { C with ro := ro, odd := [] }
theorem Cfg.Good.withRo (hC : C.Good) (ro : List Nat) : (C.withRo ro).Good := hC
theorem oddR_frz (hC : C.Good) {id : Nat} {ops : Array Oper} {e : Env} {h : List Blk} {L : List (Nat × AV)} (B ro : List Nat) {α : Type} (S : α → St)
    (hL : ∀ p ∈ L, Frz h B (get e p.1) p.2) (hB : ∀ b ∈ B, live h b) (hok : orderOk (C.withRo ro) ops = true)
    (h1 : opsR (C.withRo ro) ops ops.toList [] ⟨envL L, kill h B⟩ (fun ex σ' => ex = .normal ∧ ∃ x, Weak C σ' (S x)))
    (h2 : ∀ x, cont C .normal k (S x) Q) (hrd : C.rd = none := by rfl) : oddR C id ops true k ⟨e, h⟩ Q := by
  intro E w0 F n r0 a w hk hd hr
  have hr2 := weak_frz (C := C) B hL hB E w0 F n r0 a w hk hr
  have h3 := execOps_region (hC.withRo ro) (id := id) (d := true) (κ := fun ex σ' => ex = .normal ∧ ∃ x, Weak C σ' (S x)) hd (by rw [hok]; rfl) hr2 (.inl hrd) h1
  refine wpIn_mono h3 ?_
  rintro ex a' w' ⟨σ', ⟨rfl, x, hw⟩, hok'⟩
  exact ⟨S x, h2 x, hw E w0 F n r0 a' w' hk hok'⟩
end
end Go.Ax

namespace Go.Ax
theorem Frz.aggs {h : List Blk} {B : List Nat} {xs ys : List AV} (hs : ∀ x ∈ xs, x.solid = true) (hy : ∀ y ∈ ys, readOnly y = true) (hf : FrzL h B xs ys) : Frz h B (.agg xs) (.agg ys) := by
  intro X X' w ρ v hh hx hv
  simp only [AV.relV] at hv ⊢
  obtain ⟨cs, rfl, hv⟩ := hv
  refine ⟨cs, rfl, ?_⟩
  have key : ∀ (xs ys : List AV) (cs : List Value), (∀ x ∈ xs, x.solid = true) → (∀ y ∈ ys, readOnly y = true) → FrzL h B xs ys → relAll X w ρ xs cs → relAll X' w ρ ys cs := by
    intro xs
    induction xs with
    | nil =>
      intro ys cs _ _ hf hv
      cases ys with
      | nil => simpa only [relAll] using hv
      | cons y ys => exact hf.elim
    | cons x xs ih =>
      intro ys cs hs hy hf hv
      cases ys with
      | nil => exact hf.elim
      | cons y ys =>
        simp only [relAll] at hv ⊢
        obtain ⟨a, b, rfl, h1, h2⟩ := hv
        obtain ⟨u, rfl, h3⟩ := frz_v (hs x (by simp)) hf.1 hh hx h1
        exact ⟨[u], b, rfl, relV_ro (hy y (by simp)) h3, ih ys b (fun x hx => hs x (by simp [hx])) (fun y h => hy y (by simp [h])) hf.2 h2⟩
  exact key xs ys _ hs hy hf hv
theorem u8Of_solid {h : List Blk} {x : AV} {l : List Int} (e : u8Of h x = some l) : x.solid = true := by
  unfold u8Of at e
  split at e
  · rfl
  · rfl
  · rfl
  · cases e
theorem sec_frz {h : List Blk} {x y z u : AV} {a b c d : List Int} (ha : u8Of h x = some a) (hb : u8Of h y = some b) (hc : u8Of h z = some c) (hd : u8Of h u = some d) :
    Frz h (List.range h.length) (.agg [x, y, z, u]) (.agg [.roI .u8 a, .roI .u8 b, .roI .u8 c, .roI .u8 d]) := by
  refine Frz.aggs ?_ ?_ ⟨u8Of_frz ha, u8Of_frz hb, u8Of_frz hc, u8Of_frz hd, trivial⟩
  · intro v hv
    simp only [List.mem_cons, List.not_mem_nil, or_false] at hv
    rcases hv with rfl | rfl | rfl | rfl
    · exact u8Of_solid ha
    · exact u8Of_solid hb
    · exact u8Of_solid hc
    · exact u8Of_solid hd
  · intro v hv
    simp only [List.mem_cons, List.not_mem_nil, or_false] at hv
    rcases hv with rfl | rfl | rfl | rfl <;> rfl
def anyOf : List AV → List AV → Prop
  | [], [] => True
  | p :: ps, q :: qs => (q = p ∨ (q = .any ∧ p.one = true)) ∧ anyOf ps qs
  | _, _ => False
theorem relAll_any {X : Nat → Prop} {w : World} {ρ : List (Option Nat)} : ∀ {ps qs : List AV} {cs : List Value}, anyOf ps qs → relAll X w ρ ps cs → relAll X w ρ qs cs
  | [], [], cs, _, h => h
  | [], _ :: _, cs, h, _ => h.elim
  | _ :: _, [], cs, h, _ => h.elim
  | p :: ps, q :: qs, cs, ha, h => by
    simp only [relAll] at h ⊢
    obtain ⟨a, b, h0, h1, h2⟩ := h
    refine ⟨a, b, h0, ?_, relAll_any ha.2 h2⟩
    rcases ha.1 with rfl | ⟨rfl, ho⟩
    · exact h1
    · have hl := rel_len p ρ a h1
      rw [one_size ho] at hl
      obtain ⟨v, rfl⟩ := List.length_eq_one_iff.1 hl
      simp only [AV.rel]
      exact ⟨v, rfl, rel_flats p ρ [v] h1 v (by simp)⟩
theorem Frz.aggAny {h : List Blk} {B : List Nat} {b : Nat} {ps qs : List AV} (hb : b ∈ B) (he : row h b = some ps) (hq : anyOf ps qs) (hr : ∀ f, renL f qs = qs) : Frz h B (.ptr b 0 0) (.rop (.agg qs)) := by
  intro X X' w ρ v hh hx hv
  simp only [AV.relV, AV.rel] at hv
  obtain ⟨r, hr1, hv⟩ := hv
  have hv : v = .pointer (some ⟨r, 0, none⟩) := by simpa using hv
  subst hv
  have h1 := hh.blk b _ (row_some he)
  rw [hr1] at h1
  obtain ⟨c, e, fz, h2, h3, cs, post, h4, h5⟩ := h1
  simp only [AV.relV, AV.rel]
  have h6 : relAll X w [] qs cs := by
    refine relL_ren (f := fun _ => ρ.length) ?_ qs cs (by rw [hr]; exact relAll_any hq h5)
    intro b o hb
    rw [List.getElem?_eq_none (Nat.le_refl _)] at hb; cases hb
  refine ⟨⟨r, 0, none⟩, cs, rfl, rfl, ?_, relAll_keep Keep.refl (fun r _ h => (hx r h).1) qs [] [] cs (fun _ _ h => h) h6, ⟨c, e, fz, h2, [], post, by simpa using h4, rfl⟩⟩
  intro hX
  exact (hx r hX).2 b hb hr1
theorem relAll_pages {X : Nat → Prop} {w : World} {ρ : List (Option Nat)} {k : IntKind} (s : Nat) : ∀ (n : Nat) (f : List Int), f.length = n * s →
    relAll X w ρ ((List.range n).map fun i => AV.arr s k ((f.drop (i * s)).take s)) (f.map (Value.int k))
  | 0, f, h => by
    have : f = [] := List.eq_nil_of_length_eq_zero (by simpa using h)
    subst this
    simp [relAll]
  | n + 1, f, h => by
    have hs : s ≤ f.length := by rw [h, Nat.succ_mul]; omega
    have h1 : (f.drop s).length = n * s := by rw [List.length_drop, h, Nat.succ_mul]; omega
    have h2 := relAll_pages (X := X) (w := w) (ρ := ρ) (k := k) s n (f.drop s) h1
    rw [List.range_succ_eq_map, List.map_cons, List.map_map]
    simp only [relAll]
    refine ⟨(f.take s).map (Value.int k), (f.drop s).map (Value.int k), by rw [← List.map_append, List.take_append_drop], ?_, ?_⟩
    · simp only [AV.rel, Nat.zero_mul, List.drop_zero, List.length_take, true_and]
      omega
    · have e : ((fun i => AV.arr s k (List.take s (List.drop (i * s) f))) ∘ Nat.succ) = fun i => AV.arr s k (List.take s (List.drop (i * s) (List.drop s f))) := by
        funext i
        simp only [Function.comp, List.drop_drop, Nat.succ_mul, Nat.succ_eq_add_one, Nat.add_comm s]
      rw [e]
      exact h2
theorem Frz.pages {h : List Blk} {B : List Nat} {b n cap s : Nat} {k : IntKind} {f : List Int} (hs : s ≠ 1) (hb : b ∈ B) (hrow : row h b = some [.arr (n * s) k f]) :
    Frz h B (.sl b 0 s 0 n cap) (.roL s ((List.range n).map fun i => AV.arr s k ((f.drop (i * s)).take s))) := by
  intro X X' w ρ v hh hx hv
  simp only [AV.relV, AV.rel] at hv ⊢
  have hbl := hh.blk b _ (row_some hrow)
  have hsz : sizes ((List.range n).map fun i => AV.arr s k ((f.drop (i * s)).take s)) s := by
    intro y hy
    obtain ⟨i, _, rfl⟩ := List.mem_map.1 hy
    exact ⟨rfl, fun h => absurd h hs⟩
  have hlen : ((List.range n).map fun i => AV.arr s k ((f.drop (i * s)).take s)).length = n := by simp
  rw [hlen]
  rcases hv with ⟨r, o, hρ, hv, hroom, hcap, hle⟩ | ⟨hρ, hv, h1, h2⟩
  · rw [hρ] at hbl
    obtain ⟨c, e, fz, hc, hz, cs, post, hl, hp⟩ := hbl
    rw [relAll_one] at hp
    simp only [AV.rel] at hp
    obtain ⟨rfl, hfl⟩ := hp
    refine ⟨f.map (Value.int k), relAll_pages s n f hfl, .inl ⟨⟨r, o, none⟩, cap, hv, rfl, fun hX => (hx r hX).2 b hb hρ, ?_, hle⟩, hsz⟩
    rcases hcap with hcap | ⟨rfl, _⟩
    · have hn : n = 0 := by omega
      subst hn
      have hf0 : f = [] := List.eq_nil_of_length_eq_zero (by simpa using hfl)
      subst hf0
      obtain ⟨c2, e2, fz2, hc2, ho2⟩ := hroom
      exact ⟨c2, e2, fz2, hc2, c2.toList.take o, c2.toList.drop o, by simp, by simp; omega⟩
    · exact ⟨c, e, fz, hc, [], post, by simpa using hl, rfl⟩
  · subst h1
    exact ⟨[], by simp [relAll], .inr ⟨rfl, none, hv⟩, hsz⟩
def ro2 : AV → Bool
  | .roI .. | .v _ | .roL .. | .rop _ => true
  | _ => false
theorem relV_ro2 {X : Nat → Prop} {w : World} {ρ ρ' : List (Option Nat)} {y : AV} {v : Value} (hr : ro2 y = true) (h : AV.relV X w ρ y v) : AV.rel X w ρ' y [v] := by
  match y, hr with
  | .roI k l, _ => simpa only [AV.relV, AV.rel] using h
  | .v x, _ => simpa only [AV.relV, AV.rel] using h
  | .roL s es, _ => simpa only [AV.relV, AV.rel] using h
  | .rop x, _ => simpa only [AV.relV, AV.rel] using h
theorem ro2_one {y : AV} (hr : ro2 y = true) : y.size = 1 ∧ (1 = 1 → y.one = true) := by
  match y, hr with
  | .roI k l, _ => exact ⟨rfl, fun _ => rfl⟩
  | .v x, _ => exact ⟨rfl, fun _ => rfl⟩
  | .roL s es, _ => exact ⟨rfl, fun _ => rfl⟩
  | .rop x, _ => exact ⟨rfl, fun _ => rfl⟩
theorem Frz.list2 {h : List Blk} {B : List Nat} {b off len cap : Nat} {ps es es0 : List AV} (hb : b ∈ B) (hrow : row h b = some ps) (ho : ∀ x ∈ ps, x.solid = true)
    (he : off + len ≤ ps.length) (hes : (ps.drop off).take len = es) (hf : FrzL h B es es0) (hr : ∀ y ∈ es0, ro2 y = true) : Frz h B (.sl b 0 1 off len cap) (.roL 1 es0) := by
  intro X X' w ρ v hh hx hv
  have hsz : sizes es0 1 := by
    intro y hy
    exact ro2_one (hr y hy)
  simp only [AV.relV, AV.rel] at hv ⊢
  have hbl := hh.blk b ps (row_some hrow)
  have key : ∀ (xs ys : List AV) (cs : List Value), (∀ x ∈ xs, x.solid = true) → (∀ y ∈ ys, ro2 y = true) → FrzL h B xs ys → relAll X w ρ xs cs → relAll X' w [] ys cs ∧ xs.length = ys.length := by
    intro xs
    induction xs with
    | nil =>
      intro ys cs _ _ hf hc
      cases ys with
      | nil => exact ⟨by simpa only [relAll] using hc, rfl⟩
      | cons => exact hf.elim
    | cons x xs ih =>
      intro ys cs h1 h2 hf hc
      cases ys with
      | nil => exact hf.elim
      | cons y ys =>
        simp only [relAll] at hc ⊢
        obtain ⟨a, c, h0, h3, h4⟩ := hc
        have hy := h2 y (by simp)
        have hyo : y.one = true := (ro2_one hy).2 rfl
        obtain ⟨v, rfl, hv2⟩ := frz_v (h1 x (by simp)) hf.1 hh hx h3
        obtain ⟨h5, h6⟩ := ih ys c (fun x hx => h1 x (by simp [hx])) (fun y hy => h2 y (by simp [hy])) hf.2 h4
        exact ⟨⟨[v], c, h0, relV_ro2 hy hv2, h5⟩, by simp [h6]⟩
  rcases hv with ⟨r, o, hρ, hv, hroom, hcap, hlen⟩ | ⟨hρ, hv, h1, h2⟩
  · rw [hρ] at hbl
    obtain ⟨c, e, fz, hc, hz, cs, post, hl, hp⟩ := hbl
    have hsplit : ps = ps.take off ++ (es ++ (ps.drop off).drop len) := by rw [← hes, List.take_append_drop, List.take_append_drop]
    rw [hsplit, relAll_append] at hp
    obtain ⟨a1, b1, h3, h4, h5⟩ := hp
    rw [relAll_append] at h5
    obtain ⟨a2, b2, h6, h7, h8⟩ := h5
    obtain ⟨h9, h10⟩ := key es es0 a2 (fun x hx => ho x (by rw [hsplit]; simp [hx])) hr hf h7
    have hlen2 : es0.length = len := by rw [← h10, ← hes]; simp; omega
    have ha1 : a1.length = off := by
      rw [relAll_len _ _ _ h4]
      have : ∀ l : List AV, (∀ x ∈ l, x.solid = true) → psize l = l.length := by
        intro l
        induction l with
        | nil => intro _; rfl
        | cons x l ih =>
          intro h1
          have hx1 : x.one = true := by have := h1 x (by simp); unfold AV.solid at this; split at this <;> first | cases this | exact this
          simp only [psize, one_size hx1, ih (fun y hy => h1 y (by simp [hy])), List.length_cons]; omega
      rw [this _ (fun x hx => ho x (List.mem_of_mem_take hx))]
      simp; omega
    refine ⟨a2, h9, ?_, hsz⟩
    left
    rw [hlen2]
    refine ⟨⟨r, o, none⟩, cap, hv, rfl, fun hX => (hx r hX).2 b hb hρ, ?_, hlen⟩
    have hcl : c.toList = a1 ++ a2 ++ (b2 ++ post) := by rw [hl, h3, h6]; simp
    rcases hcap with hcap | ⟨rfl, _⟩
    · have hl0 : len = 0 := by omega
      subst hl0
      obtain ⟨c2, e2, fz2, hc2, ho2⟩ := hroom
      rw [hc] at hc2
      cases hc2
      have : a2 = [] := by
        have := relAll_sizes_len h9 hsz
        rw [hlen2] at this
        exact List.eq_nil_of_length_eq_zero (by simpa using this)
      subst this
      exact ⟨c, e, fz, hc, c.toList.take o, c.toList.drop o, by simp, by simp; omega⟩
    · exact ⟨c, e, fz, hc, a1, b2 ++ post, hcl, by simp [ha1]⟩
  · subst h1 h2
    rw [hρ] at hbl
    have h0 : es = [] := by rw [← hes]; simp
    subst h0
    cases es0 with
    | nil => exact ⟨[], by simp only [relAll], .inr ⟨rfl, none, hv⟩, hsz⟩
    | cons => exact hf.elim

theorem Frz.struct2 {h : List Blk} {B : List Nat} {b : Nat} {ps qs : List AV} (hb : b ∈ B) (he : row h b = some ps) (hs : ∀ x ∈ ps, x.solid = true) (hq : ∀ y ∈ qs, ro2 y = true) (hf : FrzL h B ps qs) : Frz h B (.ptr b 0 0) (.rop (.agg qs)) := by
  intro X X' w ρ v hh hx hv
  simp only [AV.relV, AV.rel] at hv
  obtain ⟨r, hr1, hv⟩ := hv
  have hv : v = .pointer (some ⟨r, 0, none⟩) := by simpa using hv
  subst hv
  have h1 := hh.blk b _ (row_some he)
  rw [hr1] at h1
  obtain ⟨c, e, fz, h2, h3, cs, post, h4, h5⟩ := h1
  have key : ∀ (xs ys : List AV) (cs : List Value), (∀ x ∈ xs, x.solid = true) → (∀ y ∈ ys, ro2 y = true) → FrzL h B xs ys → relAll X w ρ xs cs → relAll X' w [] ys cs := by
    intro xs
    induction xs with
    | nil =>
      intro ys cs _ _ hf hc
      cases ys with
      | nil => simpa only [relAll] using hc
      | cons => exact hf.elim
    | cons x xs ih =>
      intro ys cs h1 h2 hf hc
      cases ys with
      | nil => exact hf.elim
      | cons y ys =>
        simp only [relAll] at hc ⊢
        obtain ⟨a, c, h0, h3, h4⟩ := hc
        obtain ⟨v, rfl, hv2⟩ := frz_v (h1 x (by simp)) hf.1 hh hx h3
        exact ⟨[v], c, h0, relV_ro2 (h2 y (by simp)) hv2, ih ys c (fun x hx => h1 x (by simp [hx])) (fun y hy => h2 y (by simp [hy])) hf.2 h4⟩
  simp only [AV.relV, AV.rel]
  refine ⟨⟨r, 0, none⟩, cs, rfl, rfl, ?_, key ps qs cs hs hq hf h5, ⟨c, e, fz, h2, [], post, by simpa using h4, rfl⟩⟩
  intro hX
  exact (hx r hX).2 b hb hr1
end Go.Ax

namespace Go.Ax
def upd (D : Nat → Bool) (i : Nat) : Nat → Bool := fun k => if k = i then true else D k
section
variable {C : Cfg} {k : List KI} {σ : St} {Q : Exit → St → Prop}
theorem oddS_of (hC : C.Good) {id : Nat} {ops : Array Oper} {α : Type} (S : (Nat → Bool) → α → St)
    (hlt : ((List.range ops.size).all fun i => match ops[i]? with | some o => (edges o).all (· < i) | none => true) = true)
    (h0 : ∃ a, Weak C σ (S (fun _ => false) a))
    (hs : ∀ D a i o, ops[i]? = some o → D i = false → (∀ j ∈ edges o, D j = true) → (∀ j x, ops[j]? = some x → D j = true → (edges x).all D = true) → stepW C ops o (S D a) (fun σ' => ∃ a', Weak C σ' (S (upd D i) a')))
    (he : ∀ D a, (∀ j, j < ops.size → D j = true) → cont C .normal k (S D a) Q) (hrd : C.rd = none := by rfl) : oddR C id ops true k σ Q := by
  intro E w0 F n r0 a w hk0 hd hr
  have hdst : ∀ o ∈ ops.toList, ∀ t, o.dst = some t → t < n := by
    intro o ho t ht
    simp only [Code.dstOk, List.all_eq_true] at hd
    have := hd o ho
    rw [ht] at this
    simpa using this
  have hfe : C.fence = Fence.wide := by unfold Cfg.fence; rw [hrd]; rfl
  rw [hfe]
  refine wpIn_wide.2 ?_
  refine wp_region_any hC.1 ?_
  have key : ∀ (f : Nat) (listed : Array Bool) (D : Nat → Bool) (c : α) (a : Act) (w : World), listed.size = ops.size → (∀ j, D j = listed.getD j false) → (left ops listed).length = f → (∀ j x, ops[j]? = some x → D j = true → (edges x).all D = true) → Ok E w0 F n r0 (S D c) a w →
      wpAny C.P .any ops (fun ex a' w' => ∃ σ', contK C k Q ex σ' ∧ Ok E w0 F n r0 σ' a' w') f listed a w := by
    intro f
    induction f with
    | zero =>
      intro listed D c a w hsz hD hl hcl hok
      have hnil := List.eq_nil_of_length_eq_zero hl
      refine ⟨?_, S D c, he D c ?_, hok⟩
      · cases hr : readyL ops listed with
        | nil => exact hr
        | cons i r =>
          have := ((ready_iff listed i).1 (by rw [hr]; simp)).1
          rw [hnil] at this; cases this
      · intro j hj
        have : j ∉ left ops listed := by rw [hnil]; simp
        unfold left at this
        simp only [List.mem_filter, List.mem_range, hj, true_and, Bool.not_eq_true', Bool.not_eq_false] at this
        rw [hD]
        rw [Array.getD_eq_getD_getElem?, Array.getElem?_eq_getElem (by omega), Option.getD_some] at this ⊢
        exact this
    | succ f ih =>
      intro listed D c a w hsz hD hl hcl hok
      refine ⟨?_, ?_⟩
      · intro hnr
        exfalso
        cases hc : left ops listed with
        | nil => rw [hc] at hl; cases hl
        | cons i r =>
          have hi : i ∈ left ops listed := by rw [hc]; simp
          obtain ⟨A, B, e1, _, e3⟩ := left_split hi
          have hi2 : i < ops.size := by unfold left at hi; exact List.mem_range.1 (List.mem_filter.1 hi).1
          have hob : ops[i]? = some ops[i] := Array.getElem?_eq_getElem hi2
          have : i ∈ readyL ops listed := by
            refine (ready_iff listed i).2 ⟨hi, ops[i], hob, ?_⟩
            intro j hj
            have h1 := (List.all_eq_true.1 hlt) i (List.mem_range.2 hi2)
            rw [hob] at h1
            simp only [List.all_eq_true, decide_eq_true_eq] at h1
            have hji := h1 j hj
            cases hgd : listed.getD j false with
            | true => rfl
            | false =>
              exfalso
              have hjl : j ∈ left ops listed := by
                unfold left
                refine List.mem_filter.2 ⟨List.mem_range.2 (by omega), ?_⟩
                rw [Array.getD_eq_getD_getElem?, Array.getElem?_eq_getElem (by omega), Option.getD_some] at hgd ⊢
                simp [hgd]
              unfold left at hc hjl
              have hs1 : (List.range ops.size).Pairwise (· < ·) := List.pairwise_lt_range
              have hs2 := hs1.filter (fun i => !listed.getD i true)
              rw [hc] at hs2 hjl
              rcases List.mem_cons.1 hjl with h2 | h2
              · omega
              · have := (List.pairwise_cons.1 hs2).1 j h2
                omega
          have this2 : i ∈ Region.ready .any ops listed := this
          rw [hnr] at this2; cases this2
      · intro i hi
        obtain ⟨hil, o, ho, hej⟩ := (ready_iff listed i).1 hi
        have hif : D i = false := by
          rw [hD]
          cases hg : listed.getD i false with
          | false => rfl
          | true => exact (left_not hil hg).elim
        refine stepW_ok hC ho hok (hdst o (by have := Array.mem_of_getElem? ho; simpa using this)) (hs D c i o ho hif (fun j hj => by rw [hD]; exact hej j hj) hcl) ?_
        rintro σ' a' w' ⟨c', hw⟩ h4
        refine ih _ (upd D i) c' a' w' (by simpa using hsz) ?_ (left_len hil hl) ?_ (hw E w0 F n r0 a' w' hk0 h4)
        intro j
        have hi2 : i < ops.size := by unfold left at hil; exact List.mem_range.1 (List.mem_filter.1 hil).1
        unfold upd
        rw [hD, Array.getD_eq_getD_getElem?, Array.getD_eq_getD_getElem?, Array.getElem?_setIfInBounds]
        by_cases h : j = i
        · subst h; simp [show j < listed.size by omega]
        · rw [if_neg h, if_neg (fun h2 => h h2.symm)]
        · intro j x hx hj
          refine List.all_eq_true.2 fun y hy => ?_
          unfold upd at hj ⊢
          by_cases hyi : y = i
          · rw [if_pos hyi]
          · rw [if_neg hyi]
            by_cases hji : j = i
            · subst hji
              rw [ho] at hx; cases hx
              rw [hD]; exact hej y hy
            · rw [if_neg hji] at hj
              exact List.all_eq_true.1 (hcl j x hx hj) y hy
  have hleft : left ops (Array.replicate ops.size false) = List.range ops.size := by
    unfold left
    refine List.filter_eq_self.2 ?_
    intro i hi
    rw [Array.getD_eq_getD_getElem?]
    simp [List.mem_range.1 hi]
  obtain ⟨c, hw⟩ := h0
  refine key _ _ (fun _ => false) c a _ (by simp) ?_ (by rw [hleft]; simp) (fun j x _ h => by cases h) (hw E w0 F n r0 a _ hk0 hr.drew)
  intro j
  rw [Array.getD_eq_getD_getElem?]
  by_cases h : j < ops.size
  · simp [h]
  · simp [h]
end
end Go.Ax
namespace Go.Ax
def stepsR (C : Cfg) (ops : Array Oper) {α : Type} (S : (Nat → Bool) → α → St) : Nat → List Oper → Prop
  | _, [] => True
  | i, o :: r => (∀ D a, D i = false → (edges o).all D = true → (∀ j x, ops[j]? = some x → D j = true → (edges x).all D = true) → opsR C ops [o] [] (S D a) (fun _ σ' => ∃ a', Weak C σ' (S (upd D i) a'))) ∧ stepsR C ops S (i + 1) r
theorem stepsR_get {C : Cfg} {ops : Array Oper} {α : Type} {S : (Nat → Bool) → α → St} : ∀ (l : List Oper) (i j : Nat) (o : Oper), stepsR C ops S i l → l[j]? = some o →
    ∀ D a, D (i + j) = false → (edges o).all D = true → (∀ j x, ops[j]? = some x → D j = true → (edges x).all D = true) → opsR C ops [o] [] (S D a) (fun _ σ' => ∃ a', Weak C σ' (S (upd D (i + j)) a'))
  | [], _, _, _, _, h => by simp at h
  | x :: r, i, 0, o, hs, h => by simp at h; subst h; exact hs.1
  | x :: r, i, j + 1, o, hs, h => by
    have := stepsR_get r (i + 1) j o hs.2 (by simpa using h)
    rw [show i + (j + 1) = i + 1 + j by omega]
    exact this
theorem oddT_of {C : Cfg} {k : List KI} {σ : St} {Q : Exit → St → Prop} (hC : C.Good) {id : Nat} {ops : Array Oper} {α : Type} (S : (Nat → Bool) → α → St)
    (hlt : ((List.range ops.size).all fun i => match ops[i]? with | some o => (edges o).all (· < i) | none => true) = true)
    (h0 : ∃ a, Weak C σ (S (fun _ => false) a)) (hs : stepsR C ops S 0 ops.toList)
    (he : ∀ D a, (List.range ops.size).all D = true → cont C .normal k (S D a) Q) (hrd : C.rd = none := by rfl) : oddR C id ops true k σ Q := by
  refine oddS_of hC S hlt h0 ?_ (fun D a h => he D a (List.all_eq_true.2 fun j hj => h j (List.mem_range.1 hj))) hrd
  intro D a i o ho hi hd hcl
  have := stepsR_get ops.toList 0 i o hs (by simpa using ho) D a (by simpa using hi) (List.all_eq_true.2 hd) hcl
  simp only [Nat.zero_add] at this
  exact this
theorem undone {ops : Array Oper} {D : Nat → Bool} {i j : Nat} {x : Oper} (hi : D i = false) (hcl : ∀ j x, ops[j]? = some x → D j = true → (edges x).all D = true) (hx : ops[j]? = some x) (hm : (edges x).contains i = true) : D j = false := by
  cases h : D j with
  | false => rfl
  | true =>
    have := List.all_eq_true.1 (hcl j x hx h) i (by simpa using hm)
    rw [hi] at this; cases this
theorem upd_eq (D : Nat → Bool) (i k : Nat) : upd D i k = if k = i then true else D k := rfl
end Go.Ax

namespace Go.Ax
open Go.RowKit Go.WideShapes Go.ChangeShapes
section
variable {H : Type} {enc : TypeId × Value → H} {P : Program}
theorem post_below {f : Func} {s : ChangeSpec} {apart fresh handsOn again : Bool} {W W' : World} {args : Array Value} {v : Value} {ds gs : List (DataW H)} {before pa pv : List MemPlace}
    (hW : DataW.Whole enc P f.params.toList s.vars apart W args.toList ds gs before)
    (hres : ∀ (b : Nat) (sp : Nat → Bool) (hd : Bool), DataW.TrodAll enc P W' b sp hd f.resultTypes.toList (v.resultList f.resultTypes.size) (s.fn H (ds ++ gs)).results [])
    (hargs : ∀ sp : Nat → Bool, (∀ p ∈ before, sp p.block = true) → DataW.TrodAll enc P W' 0 sp true f.params.toList args.toList (s.fn H (ds ++ gs)).args pa)
    (hvars : ∀ sp : Nat → Bool, (∀ p ∈ before, sp p.block = true) → DataW.TrodVars enc P W' sp s.vars (s.fn H (ds ++ gs)).vars pv)
    (hps : before = pa ++ pv) (hb : Below W.heap.size W W')
    (hok : ∀ (j : Nat) (t : TypeId) (r : Value), f.resultTypes[j]? = some t → (v.resultList f.resultTypes.size)[j]? = some r → Value.okWide P W' .any 0 t r) :
    s.post enc P f apart fresh handsOn again W args v W' := by
  have hlt : ∀ p ∈ before, p.block < W.heap.size := fun p hp => hW.lt p hp
  have hold : ∀ p ∈ before, (fun b => decide (b < W.heap.size)) p.block = true := fun p hp => by simpa using hlt p hp
  refine ⟨ds, gs, before, [], pa, pv, hW, hres _ _ _, hargs _ hold, hvars _ hold, World.keptBut_mono (fun p hp => ⟨hp, ?_⟩) (hb.frame (· ∈ before)), fun _ => ?_⟩
  · rw [hps, List.mem_append] at hp
    exact Or.inr hp
  · obtain ⟨_, _, _, _, _, hz, hn⟩ := hW
    refine ⟨hok, _, _, ([] ++ pa) ++ pv, ⟨[] ++ pa, pv, trodAll_append (hargs _ (fun _ _ => rfl)) (hres _ _ _), hvars _ (fun _ _ => rfl), rfl, ?_, ?_⟩, ?_⟩
    · intro b off hp
      have hin : MemPlace.cell b off ∈ before := by rw [hps]; simpa using hp
      rw [hb.frozen (hlt _ hin)]
      exact hz b off hin
    · intro ha
      have := hn ha
      rw [hps] at this
      simpa using this
    · intro p hp _
      rw [hps]
      simpa using hp

theorem cell_below {B : Nat} {W W' : World} (hb : Below B W W') {a : Addr} {x : Value} (hB : W.heap.size ≤ B) (h : W.cell? a = some x) : W'.cell? a = some x := by
  have hl : a.block < W.heap.size := by
    unfold World.cell? at h
    rcases Nat.lt_or_ge a.block W.heap.size with h1 | h1
    · exact h1
    · rw [Array.getElem?_eq_none h1] at h; cases h
  unfold World.cell? at h ⊢
  rw [hb.block _ (by omega)]
  exact h

theorem mapM_imp {α β : Type} {f g : α → Option β} : ∀ {l : List α} {ys : List β}, (∀ x ∈ l, ∀ y ∈ ys, f x = some y → g x = some y) → l.mapM f = some ys → l.mapM g = some ys
  | [], ys, _, h => by simpa using h
  | x :: l, ys, hfg, h => by
    rw [List.mapM_cons] at h ⊢
    cases hx : f x with
    | none => rw [hx] at h; cases h
    | some y =>
      rw [hx] at h
      cases hl : l.mapM f with
      | none => rw [hl] at h; cases h
      | some zs =>
        rw [hl] at h
        cases h
        rw [hfg x (by simp) y (by simp) hx, mapM_imp (fun x hx y hy => hfg x (by simp [hx]) y (by simp [hy])) hl]
        rfl

theorem cells_below {B : Nat} {W W' : World} (hb : Below B W W') (hB : W.heap.size ≤ B) {base : Nat} {a : Addr} {n : Nat} {cs : List Value} (h : W.cells? base a n = some cs) : W'.cells? base a n = some cs := by
  unfold World.cells? at h ⊢
  split at h
  · rename_i h1
    rw [if_pos h1]
    exact mapM_imp (fun x _ y _ hy => cell_below hb hB hy) h
  · cases h

def closedL (P : Program) (L : List TypeId) : Bool := L.all fun t => match P.underlying t with
  | some (.pointer e) => L.contains e
  | some (.slice e) => L.contains e && decide (0 < P.cellsOf e)
  | some (.struct fs) => fs.toList.all fun f => L.contains f.type
  | some (.array _ e) => L.contains e
  | some (.map _ e) => L.contains e
  | _ => true
theorem trod_below {B : Nat} {W W' : World} (hb : Below B W W') (hB : W.heap.size ≤ B) {L : List TypeId} (hL : closedL P L = true) {base : Nat} {sp : Nat → Bool} :
    ∀ (fuel : Nat) (t : TypeId) (cs : List Value) (x : DataW H × List MemPlace), t ∈ L → DataW.trod enc P W base (fun _ => true) true fuel t cs = some x → (∀ p ∈ x.2, sp p.block = true) → DataW.trod enc P W' base sp true fuel t cs = some x := by
  intro fuel
  induction fuel with
  | zero => intro t cs x _ h; simp [DataW.trod] at h
  | succ fuel ih =>
    intro t cs x ht h hp
    have hc := (List.all_eq_true.1 hL) t ht
    have elem : ∀ (e : TypeId) (a : Addr) (n : Nat) y, e ∈ L → (W.cells? base a n).bind (DataW.trod enc P W base (fun _ => true) true fuel e) = some y → (∀ p ∈ y.2, sp p.block = true) →
        (W'.cells? base a n).bind (DataW.trod enc P W' base sp true fuel e) = some y := by
      intro e a n y he hy hp
      obtain ⟨cs, h1, h2⟩ := Option.bind_eq_some_iff.1 hy
      rw [cells_below hb hB h1]
      exact ih _ _ _ he h2 hp
    unfold DataW.trod at h ⊢
    split at h <;> try (first | exact h | (cases h; done))
    · obtain ⟨y, hy, rfl⟩ := Option.map_eq_some_iff.1 h
      rename_i e a hu
      rw [hu] at hc
      have he : e ∈ L := by simpa using hc
      rw [elem e a _ y he hy (fun p h1 => hp p (by simp [h1]))]
      rfl
    · rename_i e a len cap hu
      rw [hu] at hc
      have hce : e ∈ L ∧ 0 < P.cellsOf e := by simpa using hc
      simp only at h ⊢
      split at h
      · rename_i hcc
        rw [if_pos hcc]
        obtain ⟨elems, h1, h⟩ := Option.bind_eq_some_iff.1 h
        obtain ⟨rest, h2, rfl⟩ := Option.map_eq_some_iff.1 h
        simp only [if_true] at h2
        rw [mapM_imp (fun i _ y hy h3 => elem e _ _ y hce.1 h3 (fun p h4 => hp p (by simp only [List.mem_append, List.mem_flatMap]; exact .inr ⟨y, .inl hy, h4⟩))) h1]
        simp only [Option.bind_some]
        have hrl := mapM_some_length h2
        simp only [List.length_range] at hrl
        by_cases hsp : sp a.block = true
        · rw [if_pos hsp, mapM_imp (fun i _ y hy h3 => elem e _ _ y hce.1 h3 (fun p h4 => hp p (by simp only [List.mem_append, List.mem_flatMap]; exact .inr ⟨y, .inr hy, h4⟩))) h2]
          rfl
        · rw [if_neg hsp]
          have h0 : cap - len = 0 := by
            rcases Nat.eq_zero_or_pos (cap - len) with h0 | h0
            · exact h0
            · exfalso
              apply hsp
              have hpos : 0 < (elems.length + rest.length) * P.cellsOf e := Nat.mul_pos (by omega) hce.2
              exact hp (.cell a.block (a.off + 0)) (by simp only [List.mem_append]; left; unfold MemPlace.row; exact List.mem_map.2 ⟨0, List.mem_range.2 hpos, rfl⟩)
          have : rest = [] := List.eq_nil_of_length_eq_zero (by omega)
          subst this
          rfl
      · cases h
    · rename_i fs hu
      rw [hu] at hc
      have hce : ∀ f ∈ fs.toList, f.type ∈ L := fun f hf => by simpa using (List.all_eq_true.1 hc) f hf
      split at h
      · rename_i hcc
        rw [if_pos hcc]
        obtain ⟨xs, h1, rfl⟩ := Option.map_eq_some_iff.1 h
        rw [mapM_imp (fun f hf y hy h3 => ih _ _ _ (hce f hf) h3 (fun p h4 => hp p (by simp only [List.mem_flatMap]; exact ⟨y, hy, h4⟩))) h1]
        rfl
      · cases h
    · rename_i n e hu
      rw [hu] at hc
      have he : e ∈ L := by simpa using hc
      split at h
      · rename_i hcc
        rw [if_pos hcc]
        obtain ⟨xs, h1, rfl⟩ := Option.map_eq_some_iff.1 h
        rw [mapM_imp (fun f _ y hy h3 => ih _ _ _ he h3 (fun p h4 => hp p (by simp only [List.mem_flatMap]; exact ⟨y, hy, h4⟩))) h1]
        rfl
      · cases h
    · rename_i k e b hu
      rw [hu] at hc
      have he : e ∈ L := by simpa using hc
      split at h
      · rename_i es clock hes
        have hl : b < W.heap.size := by
          rcases Nat.lt_or_ge b W.heap.size with h1 | h1
          · exact h1
          · rw [Array.getElem?_eq_none h1] at hes; cases hes
        rw [hb.block b (by omega), hes]
        simp only at h ⊢
        split at h
        · rename_i hcc
          rw [if_pos hcc]
          obtain ⟨entries, h1, h2⟩ := Option.bind_eq_some_iff.1 h
          split at h2
          · rename_i hr
            cases h2
            have := mapM_imp (g := fun x => (keyOf P k x.key).bind fun key => if x.val.formed P e then (DataW.trod enc P W' base sp true fuel e x.val.cells.toList).map fun y => ((key, y.1), y.2) else none) (fun x _ y hy h3 => by
              obtain ⟨key, h4, h5⟩ := Option.bind_eq_some_iff.1 h3
              rw [h4]
              simp only [Option.bind_some]
              split at h5
              · rename_i hf
                rw [if_pos hf]
                obtain ⟨z, hz, rfl⟩ := Option.map_eq_some_iff.1 h5
                rw [ih _ _ _ he hz (fun p h6 => hp p (by simp only [List.mem_cons, List.mem_flatMap]; exact .inr ⟨_, hy, h6⟩))]
                rfl
              · cases h5) h1
            rw [this]
            simp only [Option.bind_some]
            rw [if_pos hr]
          · cases h2
        · cases h
      · cases h
theorem trodAll_below {W W' : World} (hb : Below W.heap.size W W') {L : List TypeId} (hL : closedL P L = true) {base : Nat} {sp : Nat → Bool} : ∀ {ts : List TypeId} {vs : List Value} {ds : List (DataW H)} {ps : List MemPlace},
    (∀ t ∈ ts, t ∈ L) → DataW.TrodAll enc P W base (fun _ => true) true ts vs ds ps → (∀ p ∈ ps, sp p.block = true) → DataW.TrodAll enc P W' base sp true ts vs ds ps
  | [], [], [], ps, _, h, _ => h
  | t :: ts, v :: vs, d :: ds, ps, ht, h, hp => by
    obtain ⟨p, q, ⟨fuel, h1⟩, h2, rfl⟩ := h
    exact ⟨p, q, ⟨fuel, trod_below hb (Nat.le_refl _) hL fuel t _ _ (ht t (by simp)) h1 (fun x hx => hp x (by simp [hx]))⟩, trodAll_below hb hL (fun t h => ht t (by simp [h])) h2 (fun x hx => hp x (by simp [hx])), rfl⟩
  | [], [], _ :: _, _, _, h, _ => h.elim
  | [], _ :: _, _, _, _, h, _ => h.elim
  | _ :: _, [], _, _, _, h, _ => h.elim
  | _ :: _, _ :: _, [], _, _, h, _ => h.elim
end
end Go.Ax

namespace Go.Ax
open Go.RowKit Go.WideShapes Go.ChangeShapes
section
variable {H : Type} {enc : TypeId × Value → H} {P : Program} {W : World} {X : Nat → Prop}
theorem cells_ro {k : IntKind} {a : Addr} {zs : List Int} {len cap : Nat} (hlen : len ≤ cap) (hz : zs.length = cap) (hX : ∀ r, ¬ X r)
    (hc : ∀ i, i < zs.length → W.cell? (a.add i) = some (.int k (zs.getD i 0))) : roAt X W len ((zs.take len).map (Value.int k)) [.slice (some a) len cap] := by
  rcases Nat.eq_zero_or_pos cap with h0 | h0
  · subst h0
    obtain rfl : len = 0 := by omega
    exact .inr ⟨rfl, some a, rfl⟩
  · left
    have hsp0 : a.spot = none := by
      have h1 := hc 0 (by omega)
      have h2 : a.add 0 = a := by unfold Addr.add; rfl
      rw [h2] at h1
      unfold World.cell? at h1
      split at h1
      · by_cases hs : a.spot.isSome = true
        · rw [if_pos hs] at h1; cases h1
        · simpa using hs
      · cases h1
    have hget : ∀ i, i < zs.length → a.spot = none ∧ ∃ c e fz, W.heap[a.block]? = some (.cells c e fz) ∧ c[a.off + i]? = some (.int k (zs.getD i 0)) := by
      intro i hi
      have h1 := hc i hi
      obtain ⟨r, o, s⟩ := a
      simp only at hsp0
      subst hsp0
      rw [addr_add] at h1
      unfold World.cell? at h1
      simp only [Option.isSome_none, Bool.false_eq_true, if_false] at h1
      split at h1
      · rename_i c e fz hh
        exact ⟨rfl, c, e, fz, hh, h1⟩
      · cases h1
    obtain ⟨hsp, c, e, fz, hh, _⟩ := hget 0 (by omega)
    refine ⟨a, cap, rfl, hsp, hX _, ⟨c, e, fz, hh, c.toList.take a.off, c.toList.drop (a.off + len), ?_, ?_⟩, hlen⟩
    · have hv : (c.toList.drop a.off).take len = (zs.take len).map (Value.int k) := by
        apply List.ext_getElem?
        intro i
        rw [List.getElem?_take]
        split
        · rename_i hi
          obtain ⟨_, c', e', fz', hh', h2⟩ := hget i (by omega)
          rw [hh] at hh'
          cases hh'
          rw [List.getElem?_drop, Array.getElem?_toList, h2, List.getElem?_map, List.getElem?_take, if_pos hi]
          simp [List.getD_eq_getElem?_getD, show i < zs.length by omega]
        · rename_i hi
          rw [List.getElem?_eq_none (by simp; omega)]
      rw [← hv, List.append_assoc, ← List.drop_drop, List.take_append_drop, List.take_append_drop]
    · obtain ⟨_, c', e', fz', hh', h2⟩ := hget 0 (by omega)
      rw [hh] at hh'
      cases hh'
      have := (Array.getElem?_eq_some_iff.1 h2).1
      simp; omega

theorem okWide_slice {t e : TypeId} {v : Value} (ht : P.underlying t = some (.slice e)) (h : Value.okWide P W .any 0 t v) : (∃ a n c, v = .slice a n c) := by
  unfold Value.okWide at h
  rw [ht] at h
  simp only at h
  unfold Cell.okWide at h
  rw [ht] at h
  simp only at h
  unfold Cell.ok at h
  rw [ht] at h
  cases v <;> simp only at h <;> first | exact ⟨_, _, _, rfl⟩ | cases h

theorem trod_ints {t e : TypeId} {k : IntKind} {fuel : Nat} {cs : List Value} {x : DataW H × List MemPlace} (ht : P.underlying t = some (.slice e)) (he : P.underlying e = some (.int k)) (hc : P.cellsOf e = 1)
    (hX : ∀ r, ¬ X r) (h : DataW.trod enc P W 0 (fun _ => true) true fuel t cs = some x) :
    ∃ l, AV.rel X W [] (.roI k l) cs ∧ ((l = [] ∧ x.1 = .nil) ∨ ∃ sp, x.1 = .slice (lits k l) sp) ∧ ∀ n ∈ l, (Lit.int k n).wf = true := by
  rcases open_ints ht he hc h with ⟨rfl, rfl⟩ | ⟨a, len, cap, zs, rfl, _, hlen, _, hz, rfl, hcell, hwf⟩
  · refine ⟨[], ?_, .inl ⟨rfl, rfl⟩, by simp⟩
    simp only [AV.rel, roAt]
    exact .inr ⟨rfl, none, rfl⟩
  · simp only [if_true] at hz
    refine ⟨zs.take len, ?_, .inr ⟨_, rfl⟩, fun n hn => hwf n (List.mem_of_mem_take hn)⟩
    simp only [AV.rel]
    have h1 : (zs.take len).length = len := by simp; omega
    have := cells_ro (W := W) (X := X) (k := k) hlen hz hX hcell
    rw [h1]
    exact this
theorem open_ints' {t e : TypeId} {k : IntKind} {v : Value} {d : DataW H} {ps : List MemPlace} (ht : P.underlying t = some (.slice e)) (he : P.underlying e = some (.int k)) (hc : P.cellsOf e = 1)
    (hX : ∀ r, ¬ X r) (hval : Value.okWide P W .any 0 t v) (hd : DataW.Trod enc P W 0 (fun _ => true) true t v d ps) :
    ∃ l, AV.relV X W [] (.roI k l) v ∧ ((l = [] ∧ d = .nil) ∨ ∃ sp, d = .slice (lits k l) sp) ∧ ∀ n ∈ l, (Lit.int k n).wf = true := by
  obtain ⟨fuel, hd⟩ := hd
  obtain ⟨l, h1, h2, h3⟩ := trod_ints ht he hc hX hd
  refine ⟨l, ?_, h2, h3⟩
  obtain ⟨a, n, c, rfl⟩ := okWide_slice ht hval
  simp only [AV.relV]
  exact h1

theorem trod_arr {t e : TypeId} {k : IntKind} {n fuel : Nat} {cs : List Value} {x : DataW H × List MemPlace} {base : Nat} {sp : Nat → Bool} {held : Bool} (ht : P.underlying t = some (.array n e)) (he : P.underlying e = some (.int k)) (hc : P.cellsOf e = 1) (hct : P.cellsOf t = n)
    (h : DataW.trod enc P W base sp held fuel t cs = some x) : ∃ l : List Int, cs = l.map (Value.int k) ∧ l.length = n ∧ ∀ m ∈ l, (Lit.int k m).wf = true := by
  cases fuel with
  | zero => simp [DataW.trod] at h
  | succ fuel =>
    unfold DataW.trod at h
    rw [ht] at h
    simp only at h
    split at h
    · rename_i hl
      rw [hct] at hl
      obtain ⟨xs, h1, _⟩ := Option.map_eq_some_iff.1 h
      have hg := fun i hi => mapM_some_get h1 i i hi
      have each : ∀ i, i < n → ∃ m, cs[i]? = some (.int k m) ∧ (Lit.int k m).wf = true := by
        intro i hi
        have h2 := hg i (by simp [hi])
        rw [hc, Nat.mul_one] at h2
        have hxl := mapM_some_length h1
        simp only [List.length_range] at hxl
        rw [List.getElem?_eq_getElem (by omega)] at h2
        obtain ⟨m, h3, _, h4⟩ := DataW.trod_int he h2
        refine ⟨m, ?_, h4⟩
        have hd : cs.drop i = cs[i] :: cs.drop (i + 1) := List.drop_eq_getElem_cons (by omega)
        have h5 : cs[i] = .int k m := by
          have h6 : [cs[i]] = [Value.int k m] := by rw [← h3, hd]; rfl
          simpa using h6
        rw [List.getElem?_eq_getElem (by omega), h5]
      let val : Value → Int := fun v => match v with | .int _ m => m | _ => 0
      refine ⟨cs.map val, ?_, by simp [hl], ?_⟩
      · apply List.ext_getElem?
        intro i
        rcases Nat.lt_or_ge i n with hi | hi
        · obtain ⟨m, h2, _⟩ := each i hi
          simp only [List.getElem?_map, h2, Option.map_some, val]
        · rw [List.getElem?_eq_none (by omega), List.getElem?_eq_none (by simp; omega)]
      · intro m hm
        obtain ⟨v, hv, rfl⟩ := List.mem_map.1 hm
        obtain ⟨i, hi⟩ := List.getElem?_of_mem hv
        obtain ⟨m, h2, h3⟩ := each i (by have := (List.getElem?_eq_some_iff.1 hi).1; omega)
        rw [hi] at h2
        cases h2
        exact h3
    · cases h
theorem open_arr' {t e : TypeId} {k : IntKind} {n : Nat} {v : Value} {d : DataW H} {ps : List MemPlace} (ht : P.underlying t = some (.array n e)) (he : P.underlying e = some (.int k)) (hc : P.cellsOf e = 1) (hct : P.cellsOf t = n)
    (hval : Value.okWide P W .any 0 t v) (hd : DataW.Trod enc P W 0 (fun _ => true) true t v d ps) : ∃ l, AV.relV X W [] (.arr n k l) v ∧ l.length = n ∧ ∀ m ∈ l, (Lit.int k m).wf = true := by
  obtain ⟨fuel, hd⟩ := hd
  obtain ⟨l, h1, h2, h3⟩ := trod_arr ht he hc hct hd
  refine ⟨l, ?_, h2, h3⟩
  unfold Value.okWide at hval
  rw [ht] at hval
  simp only at hval
  obtain ⟨cs, rfl, _⟩ := hval
  simp only [AV.relV]
  refine ⟨?_, h2⟩
  have : cs.toList = l.map (Value.int k) := h1
  rw [← this]

theorem law_post {f : FuncId} {fn : Func} {s : ChangeSpec} {tb : TypeId} {args : Array Value} {ds gs : List (DataW H)} {before : List MemPlace} {L : List TypeId} (hz : closedL P L = true) (hL : ∀ t ∈ fn.params.toList, t ∈ L) (hres : fn.resultTypes = #[tb]) (htb : P.underlying tb = some .bool)
    (hvars : s.vars = []) (hfn : (s.fn H (ds ++ gs)) = { results := [.lit (.bool true)], args := ds })
    (hW : DataW.Whole enc P fn.params.toList s.vars false W args.toList ds gs before)
    {avs : List AV} (hargs : relVs (XOf (fun _ => False) [] []) W [] avs args.toList) (hcall : ACall P f avs [] fun v _ => v = .v (.bool true)) :
    Calls P f args W fun e W' => ∃ v, e = .returned v ∧ s.post enc P fn false true false false W args v W' := by
  refine (hcall.2 (fun _ => False) W [] args hargs ⟨rfl, by simp, by simp⟩ (fun r h => h.elim)).mono ?_
  rintro en W' ⟨av, v, ρ', h', rfl, rfl, hv, _, _, _, hfr⟩
  simp only [AV.relV, AV.rel] at hv
  obtain ⟨hv, _⟩ := hv
  have hv : v = .bool true := by simpa using hv
  subst hv
  have hno : ∀ r, ¬ own ([] : List (Option Nat)) [] r := by rintro r ⟨b, hb, _⟩; simp at hb
  have hb : Below W.heap.size W W' := ⟨hfr.os, hfr.tape, hfr.out, hfr.size, fun k hk => hfr.same k hk (hno k)⟩
  have hW' := hW
  obtain ⟨p, q, hA, hV, rfl, _, _⟩ := hW
  rw [hvars] at hV
  obtain ⟨rfl, rfl⟩ := trodVars_none hV
  refine ⟨_, rfl, post_below (pa := p) (pv := []) hW' ?_ ?_ ?_ rfl hb ?_⟩
  · intro b sp hd
    rw [hfn, hres]
    exact trodAll_cons_mk (shut_bool htb _) trodAll_mk0
  · intro sp hsp
    rw [hfn]
    exact trodAll_below hb hz hL hA (fun x hx => hsp x (by simp [hx]))
  · intro sp hsp
    rw [hvars]
    simp only [hfn]
    rfl
  · rw [hres]
    have := ok_one (P := P) (W' := W') (f := fn) (v := .bool true) hres rfl (okWide_bool_mk htb true)
    rw [hres] at this
    exact this
end
end Go.Ax

namespace Go.Ax
open Go.RowKit Go.WideShapes Go.ChangeShapes
section
variable {H : Type} {enc : TypeId × Value → H} {P : Program} {W : World} {X : Nat → Prop}
theorem trod_struct {t : TypeId} {fuel n : Nat} {fs : Array Field} {cs : List Value} {x : DataW H × List MemPlace} (ht : P.underlying t = some (.struct fs)) (hct : P.cellsOf t = n)
    (h : DataW.trod enc P W 0 (fun _ => true) true fuel t cs = some x) : ∃ fuel', ∃ xs : List (DataW H × List MemPlace), cs.length = n ∧ x.1 = .agg (xs.map (·.1)) ∧
      fs.toList.mapM (fun f => DataW.trod enc P W 0 (fun _ => true) true fuel' f.type ((cs.drop f.offset).take (P.cellsOf f.type))) = some xs := by
  cases fuel with
  | zero => simp [DataW.trod] at h
  | succ fuel =>
    unfold DataW.trod at h
    rw [ht] at h
    simp only at h
    split at h
    · rename_i hl
      obtain ⟨xs, h1, h2⟩ := Option.map_eq_some_iff.1 h
      exact ⟨fuel, xs, by rw [hl, hct], by rw [← h2], h1⟩
    · cases h
theorem okWide_struct {t : TypeId} {fs : Array Field} {v : Value} (ht : P.underlying t = some (.struct fs)) (h : Value.okWide P W .any 0 t v) : ∃ cs, v = .agg cs := by
  unfold Value.okWide at h
  rw [ht] at h
  simp only at h
  obtain ⟨cs, rfl, _⟩ := h
  exact ⟨cs, rfl⟩
theorem open_prm {t e : TypeId} {k : IntKind} {f0 f1 f2 : Field} {v : Value} {d : DataW H} {ps : List MemPlace} (ht : P.underlying t = some (.struct #[f0, f1, f2])) (h0 : f0.type = e ∧ f0.offset = 0) (h1 : f1.type = e ∧ f1.offset = 1) (h2 : f2.type = e ∧ f2.offset = 2)
    (he : P.underlying e = some (.int k)) (hce : P.cellsOf e = 1) (hct : P.cellsOf t = 3) (hval : Value.okWide P W .any 0 t v) (hd : DataW.Trod enc P W 0 (fun _ => true) true t v d ps) :
    ∃ a b c, AV.relV X W [] (.agg [.v (.int k a), .v (.int k b), .v (.int k c)]) v ∧ ((Lit.int k a).wf = true ∧ (Lit.int k b).wf = true ∧ (Lit.int k c).wf = true) := by
  obtain ⟨cs, rfl⟩ := okWide_struct ht hval
  obtain ⟨fuel, hd⟩ := hd
  obtain ⟨fuel', xs, hl, _, hm⟩ := trod_struct ht hct hd
  have hl : cs.toList.length = 3 := hl
  obtain ⟨cs⟩ := cs
  match cs, hl with
  | [x, y, z], _ =>
    simp only [List.mapM_cons, List.mapM_nil, h0.1, h0.2, h1.1, h1.2, h2.1, h2.2, hce] at hm
    rw [show (Value.agg ⟨[x, y, z]⟩).cells.toList = [x, y, z] from rfl] at hm
    simp only [List.drop_zero, List.drop_succ_cons, List.take_succ_cons, List.take_zero, Option.bind_eq_bind, Option.pure_def, Option.bind_some, Option.bind_assoc] at hm
    obtain ⟨a, ha, hm⟩ := Option.bind_eq_some_iff.1 hm
    obtain ⟨b, hb, hm⟩ := Option.bind_eq_some_iff.1 hm
    obtain ⟨c, hc, hm⟩ := Option.bind_eq_some_iff.1 hm
    obtain ⟨m0, e0, _, w0⟩ := DataW.trod_int he ha
    obtain ⟨m1, e1, _, w1⟩ := DataW.trod_int he hb
    obtain ⟨m2, e2, _, w2⟩ := DataW.trod_int he hc
    simp only [List.cons.injEq, and_true] at e0 e1 e2
    subst e0 e1 e2
    refine ⟨m0, m1, m2, ?_, w0, w1, w2⟩
    simp only [AV.relV]
    refine ⟨_, rfl, ?_⟩
    simp only [relAll, AV.rel]
    exact ⟨_, _, rfl, ⟨rfl, rfl⟩, _, _, rfl, ⟨rfl, rfl⟩, _, _, rfl, ⟨rfl, rfl⟩, rfl⟩
theorem open_sec {t e u : TypeId} {k : IntKind} {f0 f1 f2 f3 : Field} {v : Value} {d : DataW H} {ps : List MemPlace} (ht : P.underlying t = some (.struct #[f0, f1, f2, f3])) (h0 : f0.type = e ∧ f0.offset = 0) (h1 : f1.type = e ∧ f1.offset = 1) (h2 : f2.type = e ∧ f2.offset = 2) (h3 : f3.type = e ∧ f3.offset = 3)
    (he : P.underlying e = some (.slice u)) (hce : P.cellsOf e = 1) (hu : P.underlying u = some (.int k)) (hcu : P.cellsOf u = 1) (hct : P.cellsOf t = 4) (hX : ∀ r, ¬ X r) (hval : Value.okWide P W .any 0 t v) (hd : DataW.Trod enc P W 0 (fun _ => true) true t v d ps) :
    ∃ a b c g d0 d1 d2 d3, AV.relV X W [] (.agg [.roI k a, .roI k b, .roI k c, .roI k g]) v ∧ d = .agg [d0, d1, d2, d3] ∧
      ((a = [] ∧ d0 = .nil) ∨ ∃ sp, d0 = .slice (lits k a) sp) ∧ ((b = [] ∧ d1 = .nil) ∨ ∃ sp, d1 = .slice (lits k b) sp) ∧ ((c = [] ∧ d2 = .nil) ∨ ∃ sp, d2 = .slice (lits k c) sp) ∧ ((g = [] ∧ d3 = .nil) ∨ ∃ sp, d3 = .slice (lits k g) sp) := by
  obtain ⟨cs, rfl⟩ := okWide_struct ht hval
  obtain ⟨fuel, hd⟩ := hd
  obtain ⟨fuel', xs, hl, hx, hm⟩ := trod_struct ht hct hd
  have hl : cs.toList.length = 4 := hl
  obtain ⟨cs⟩ := cs
  match cs, hl with
  | [x, y, z, w], _ =>
    simp only [List.mapM_cons, List.mapM_nil, h0.1, h0.2, h1.1, h1.2, h2.1, h2.2, h3.1, h3.2, hce] at hm
    rw [show (Value.agg ⟨[x, y, z, w]⟩).cells.toList = [x, y, z, w] from rfl] at hm
    simp only [List.drop_zero, List.drop_succ_cons, List.take_succ_cons, List.take_zero, Option.bind_eq_bind, Option.pure_def, Option.bind_some, Option.bind_assoc] at hm
    obtain ⟨a, ha, hm⟩ := Option.bind_eq_some_iff.1 hm
    obtain ⟨b, hb, hm⟩ := Option.bind_eq_some_iff.1 hm
    obtain ⟨c, hc, hm⟩ := Option.bind_eq_some_iff.1 hm
    obtain ⟨g, hg, hm⟩ := Option.bind_eq_some_iff.1 hm
    obtain ⟨l0, r0, s0, _⟩ := trod_ints he hu hcu hX ha
    obtain ⟨l1, r1, s1, _⟩ := trod_ints he hu hcu hX hb
    obtain ⟨l2, r2, s2, _⟩ := trod_ints he hu hcu hX hc
    obtain ⟨l3, r3, s3, _⟩ := trod_ints he hu hcu hX hg
    cases hm
    refine ⟨l0, l1, l2, l3, a.1, b.1, c.1, g.1, ?_, hx, s0, s1, s2, s3⟩
    simp only [AV.relV]
    refine ⟨_, rfl, ?_⟩
    simp only [relAll]
    exact ⟨[x], [y, z, w], rfl, r0, [y], [z, w], rfl, r1, [z], [w], rfl, r2, [w], [], rfl, r3, rfl⟩
end
end Go.Ax

namespace Go.Ax
theorem exA :
  (type_of% @v_eqR_int) ∧
  (type_of% @v_eqR_bool) ∧
  (type_of% @v_eqR_string) ∧
  (type_of% @v_eqR_pointer) ∧
  (type_of% @v_eqR_array) ∧
  (type_of% @v_eqR_struct) ∧
  (type_of% @v_eqR_slice) ∧
  (type_of% @v_convR_int) ∧
  (type_of% @v_convR_string) ∧
  (type_of% @v_convR_bytes) ∧
  (type_of% @v_convR_same) ∧
  (type_of% @v_convR_slice) ∧
  (type_of% @v_move) ∧
  (type_of% @v_assign) ∧
  (type_of% @v_pick) ∧
  (type_of% @v_load) ∧
  (type_of% @v_nilCheck) ∧
  (type_of% @v_add) ∧
  (type_of% @v_sub) ∧
  (type_of% @v_mul) ∧
  (type_of% @v_quo) ∧
  (type_of% @v_rem) ∧
  (type_of% @v_and) ∧
  (type_of% @v_or) ∧
  (type_of% @v_xor) ∧
  (type_of% @v_andNot) ∧
  (type_of% @v_shl) ∧
  (type_of% @v_shr) ∧
  (type_of% @v_lss) ∧
  (type_of% @v_leq) ∧
  (type_of% @v_gtr) ∧
  (type_of% @v_geq) ∧
  (type_of% @v_eql) ∧
  (type_of% @v_neq) ∧
  (type_of% @v_un) ∧
  (type_of% @v_conv) ∧
  (type_of% @v_arrayAt) ∧
  (type_of% @v_makeFunc) ∧
  (type_of% @v_slice) ∧
  (type_of% @v_fieldAddr) ∧
  (type_of% @v_field) ∧
  (type_of% @v_indexAddr) ∧
  (type_of% @v_index) ∧
  (type_of% @v_extract) ∧
  (type_of% @v_build) ∧
  (type_of% @v_len) ∧
  (type_of% @v_min) ∧
  (type_of% @v_max) ∧
  (type_of% @v_call) ∧
  (type_of% @v_alloc) ∧
  (type_of% @v_box) ∧
  (type_of% @v_store) ∧
  (type_of% @v_makeSlice) ∧
  (type_of% @v_buildSlice) ∧
  (type_of% @v_append) ∧
  (type_of% @v_copy) ∧
  (type_of% @nilA_ptr) ∧
  (type_of% @nilA_rop) ∧
  (type_of% @nilA_fn) ∧
  (type_of% @ldI_t) ∧
  (type_of% @ldI_f) ∧
  (type_of% @ldH_tmp) ∧
  (type_of% @ixAddrA_int) ∧
  (type_of% @ixA_int) ∧
  (type_of% @extA_tup) ∧
  (type_of% @calA_fn) ∧
  (type_of% @ev_tmp) ∧
  (type_of% @ev_const) ∧
  (type_of% @ev_func) ∧
  (type_of% @constAV_int) ∧
  (type_of% @constAV_bool) ∧
  (type_of% @constAV_string) ∧
  (type_of% @constAV_pointer) ∧
  (type_of% @constAV_slice) ∧
  (type_of% @optA_none) ∧
  (type_of% @optA_some) ∧
  (type_of% @b_add) ∧
  (type_of% @b_sub) ∧
  (type_of% @b_mul) ∧
  (type_of% @b_quo) ∧
  (type_of% @b_rem) ∧
  (type_of% @b_and) ∧
  (type_of% @b_or) ∧
  (type_of% @b_xor) ∧
  (type_of% @b_eql) ∧
  (type_of% @b_neq) ∧
  (type_of% @b_lss) ∧
  (type_of% @b_leq) ∧
  (type_of% @b_gtr) ∧
  (type_of% @b_geq) ∧
  (type_of% @b_shl) ∧
  (type_of% @b_shr) ∧
  (type_of% @b_seq) ∧
  (type_of% @b_sne) ∧
  (type_of% @b_beq) ∧
  (type_of% @b_bne) ∧
  (type_of% @b_peq) ∧
  (type_of% @b_pne) ∧
  (type_of% @b_qeq) ∧
  (type_of% @b_qne) ∧
  (type_of% @b_aeq) ∧
  (type_of% @b_ane) ∧
  (type_of% @u_neg) ∧
  (type_of% @u_xor) ∧
  (type_of% @u_not) ∧
  (type_of% @i_xor) ∧
  (type_of% @v_int_conv) ∧
  (type_of% @retK_ret) ∧
  (type_of% @retK_normal) ∧
  (type_of% @resList_nil) ∧
  (type_of% @resList_tmp) ∧
  (type_of% @packA_one) ∧
  (type_of% @packA_nil) ∧
  (type_of% @packA_two) ∧
  (type_of% @holds_some) ∧
  (type_of% @holds_none) ∧
  (type_of% @holds_guard) ∧
  (type_of% @s_builtin_len) ∧
  (type_of% @s_builtin_min) ∧
  (type_of% @s_builtin_max) ∧
  (type_of% @opsR_cons_g) ∧
  (type_of% @resList_cell) ∧
  (type_of% @run_skip) ∧
  (type_of% @run_seq) ∧
  (type_of% @run_block) ∧
  (type_of% @run_exit) ∧
  (type_of% @run_ret) ∧
  (type_of% @run_loop) ∧
  (type_of% @run_cond) ∧
  (type_of% @run_region) ∧
  (type_of% @regionR_true) ∧
  (type_of% @regionR_false) ∧
  (type_of% @planR_done) ∧
  (type_of% @planR_stop) ∧
  (type_of% @planR_first) ∧
  (type_of% @planR_fork) ∧
  (type_of% @someR_some) ∧
  (type_of% @cont_plan) ∧
  (type_of% @cont_nil) ∧
  (type_of% @cont_code) ∧
  (type_of% @cont_blk) ∧
  (type_of% @cont_ret_code) ∧
  (type_of% @cont_ret_blk) ∧
  (type_of% @cont_exit_code) ∧
  (type_of% @cont_exit_blk) ∧
  (type_of% @opsR_nil) ∧
  (type_of% @opsR_cons) ∧
  (type_of% @wantR_skip) ∧
  (type_of% @valR_some) ∧
  (type_of% @valR_none) ∧
  (type_of% @valR_guard) ∧
  (type_of% @valR_ite) ∧
  (type_of% @outR_one) ∧
  (type_of% @outR_cap) ∧
  (type_of% @outR_none) ∧
  (type_of% @outR_guard) ∧
  (type_of% @nilR_some) ∧
  (type_of% @callA_some) ∧
  (type_of% @callB_some) ∧
  (type_of% @callB_none) ∧
  (type_of% @callN_some) ∧
  (type_of% @callN_none) ∧
  (type_of% @guard_bind) ∧
  (type_of% @guard_map) ∧
  (type_of% @guard_true) ∧
  (type_of% @guard_false) ∧
  (type_of% @get_put) ∧
  (type_of% @get_envOf) ∧
  (type_of% @put_none) ∧
  (type_of% @condR_t) ∧
  (type_of% @condR_f) ∧
  (type_of% @nilCmp_eql) ∧
  (type_of% @nilCmp_neq) ∧
  (type_of% @nilK_some) ∧
  (type_of% @bsK_of) ∧
  (type_of% @bsK_ints) ∧
  (type_of% @bsK_ones) ∧
  (type_of% @moK_of) ∧
  (type_of% @moK_slice) ∧
  (type_of% @moK_int) ∧
  (type_of% @apK_of) ∧
  (type_of% @apK_nil) ∧
  (type_of% @apK_sl) ∧
  (type_of% @apR_0) ∧
  (type_of% @apK_no) ∧
  (type_of% @akeep_no) ∧
  (type_of% @alK_of) ∧
  (type_of% @alK_sl) ∧
  (type_of% @alK_nil) ∧
  (type_of% @loK_some) ∧
  (type_of% @listOf_roL) ∧
  (type_of% @listOf_nil) ∧
  (type_of% @listOf_sl) ∧
  (type_of% @xorU_eq) ∧
  (type_of% @orU_eq) ∧
  (type_of% @take_range) ∧
  (type_of% @rep_one) ∧
  (type_of% @take_one) ∧
  (type_of% @wantR_tt) ∧
  (type_of% @wantR_ff) ∧
  (type_of% @wantR_tf) ∧
  (type_of% @wantR_ft) ∧
  (type_of% @envAll_nil) ∧
  (type_of% @envAll_cons) ∧
  (type_of% @get_envL_nil) ∧
  (type_of% @get_envL_cons) ∧
  (type_of% @thenK_normal) ∧
  (type_of% @thenK_exit) ∧
  (type_of% @thenK_ret) ∧
  (type_of% @storeA_ptr) ∧
  (type_of% @stK_some) ∧
  (type_of% @stC_some) ∧
  (type_of% @stD_cell) ∧
  (type_of% @stD_agg) ∧
  (type_of% @stE_some) ∧
  (type_of% @stE_guard) ∧
  (type_of% @loadA_ptr) ∧
  (type_of% @loadA_rop) ∧
  (type_of% @ldK_cell) ∧
  (type_of% @ldK_agg) ∧
  (type_of% @ldC_some) ∧
  (type_of% @ldD_some) ∧
  (type_of% @laC_some) ∧
  (type_of% @laD_some) ∧
  (type_of% @row_def) ∧
  (type_of% @rep_2) ∧
  (type_of% @rep_3) ∧
  (type_of% @rep_4) ∧
  (type_of% @rep_5) ∧
  (type_of% @rep_6) ∧
  (type_of% @cv_ro) ∧
  (type_of% @cv_nil) ∧
  (type_of% @cv_sl) ∧
  (type_of% @cvK_str) ∧
  (type_of% @sb_str) ∧
  (type_of% @sb_sl) ∧
  (type_of% @sbK_str) ∧
  (type_of% @mk_sl) ∧
  (type_of% @mkK_bytes) ∧
  (type_of% @u8Of_roI) ∧
  (type_of% @u8Of_nil) ∧
  (type_of% @u8Of_sl) ∧
  (type_of% @isU8_some) ∧
  (type_of% @isU8_guard) ∧
  (type_of% @u8sOf_roL) ∧
  (type_of% @u8sOf_nil) ∧
  (type_of% @u8sOf_sl) ∧
  (type_of% @allOf_ro) ∧
  (type_of% @osel_t) ∧
  (type_of% @osel_f) :=
  ⟨@v_eqR_int, @v_eqR_bool, @v_eqR_string, @v_eqR_pointer, @v_eqR_array, @v_eqR_struct, @v_eqR_slice, @v_convR_int, @v_convR_string, @v_convR_bytes, @v_convR_same, @v_convR_slice, @v_move, @v_assign, @v_pick, @v_load, @v_nilCheck, @v_add, @v_sub, @v_mul, @v_quo, @v_rem, @v_and, @v_or, @v_xor, @v_andNot, @v_shl, @v_shr, @v_lss, @v_leq, @v_gtr, @v_geq, @v_eql, @v_neq, @v_un, @v_conv, @v_arrayAt, @v_makeFunc, @v_slice, @v_fieldAddr, @v_field, @v_indexAddr, @v_index, @v_extract, @v_build, @v_len, @v_min, @v_max, @v_call, @v_alloc, @v_box, @v_store, @v_makeSlice, @v_buildSlice, @v_append, @v_copy, @nilA_ptr, @nilA_rop, @nilA_fn, @ldI_t, @ldI_f, @ldH_tmp, @ixAddrA_int, @ixA_int, @extA_tup, @calA_fn, @ev_tmp, @ev_const, @ev_func, @constAV_int, @constAV_bool, @constAV_string, @constAV_pointer, @constAV_slice, @optA_none, @optA_some, @b_add, @b_sub, @b_mul, @b_quo, @b_rem, @b_and, @b_or, @b_xor, @b_eql, @b_neq, @b_lss, @b_leq, @b_gtr, @b_geq, @b_shl, @b_shr, @b_seq, @b_sne, @b_beq, @b_bne, @b_peq, @b_pne, @b_qeq, @b_qne, @b_aeq, @b_ane, @u_neg, @u_xor, @u_not, @i_xor, @v_int_conv, @retK_ret, @retK_normal, @resList_nil, @resList_tmp, @packA_one, @packA_nil, @packA_two, @holds_some, @holds_none, @holds_guard, @s_builtin_len, @s_builtin_min, @s_builtin_max, @opsR_cons_g, @resList_cell, @run_skip, @run_seq, @run_block, @run_exit, @run_ret, @run_loop, @run_cond, @run_region, @regionR_true, @regionR_false, @planR_done, @planR_stop, @planR_first, @planR_fork, @someR_some, @cont_plan, @cont_nil, @cont_code, @cont_blk, @cont_ret_code, @cont_ret_blk, @cont_exit_code, @cont_exit_blk, @opsR_nil, @opsR_cons, @wantR_skip, @valR_some, @valR_none, @valR_guard, @valR_ite, @outR_one, @outR_cap, @outR_none, @outR_guard, @nilR_some, @callA_some, @callB_some, @callB_none, @callN_some, @callN_none, @guard_bind, @guard_map, @guard_true, @guard_false, @get_put, @get_envOf, @put_none, @condR_t, @condR_f, @nilCmp_eql, @nilCmp_neq, @nilK_some, @bsK_of, @bsK_ints, @bsK_ones, @moK_of, @moK_slice, @moK_int, @apK_of, @apK_nil, @apK_sl, @apR_0, @apK_no, @akeep_no, @alK_of, @alK_sl, @alK_nil, @loK_some, @listOf_roL, @listOf_nil, @listOf_sl, @xorU_eq, @orU_eq, @take_range, @rep_one, @take_one, @wantR_tt, @wantR_ff, @wantR_tf, @wantR_ft, @envAll_nil, @envAll_cons, @get_envL_nil, @get_envL_cons, @thenK_normal, @thenK_exit, @thenK_ret, @storeA_ptr, @stK_some, @stC_some, @stD_cell, @stD_agg, @stE_some, @stE_guard, @loadA_ptr, @loadA_rop, @ldK_cell, @ldK_agg, @ldC_some, @ldD_some, @laC_some, @laD_some, @row_def, @rep_2, @rep_3, @rep_4, @rep_5, @rep_6, @cv_ro, @cv_nil, @cv_sl, @cvK_str, @sb_str, @sb_sl, @sbK_str, @mk_sl, @mkK_bytes, @u8Of_roI, @u8Of_nil, @u8Of_sl, @isU8_some, @isU8_guard, @u8sOf_roL, @u8sOf_nil, @u8sOf_sl, @allOf_ro, @osel_t, @osel_f⟩
theorem exB :
  (type_of% @List.contains_nil.{0}) ∧
  (type_of% @List.contains_cons.{0}) ∧
  (type_of% @Bool.or_false) ∧
  (type_of% @Bool.false_or) ∧
  (type_of% @List.getElem?_toArray.{0}) ∧
  (type_of% @List.getD_cons_zero.{0}) ∧
  (type_of% @List.getD_cons_succ.{0}) ∧
  (type_of% @Option.map_some.{0,0}) ∧
  (type_of% @Option.bind_some.{0,0}) ∧
  (type_of% @Option.map_none.{0,0}) ∧
  (type_of% @Option.bind_none.{0,0}) ∧
  (type_of% @Option.some_or.{0}) ∧
  (type_of% @Option.or_none.{0}) ∧
  (type_of% @Option.none_or.{0}) ∧
  (type_of% @List.map_cons.{0,0}) ∧
  (type_of% @List.map_nil.{0,0}) ∧
  (type_of% @List.append_nil.{0}) ∧
  (type_of% @List.nil_append.{0}) ∧
  (type_of% @List.cons_append.{0}) ∧
  (type_of% @List.toList_toArray.{0}) ∧
  (type_of% @Option.some.injEq.{0}) ∧
  (type_of% @Bool.true_eq_false) ∧
  (type_of% @Bool.false_eq_true) ∧
  (type_of% @List.take_length.{0}) ∧
  (type_of% @List.drop_length.{0}) ∧
  (type_of% @Nat.min_self) ∧
  (type_of% @List.length_replicate.{0}) ∧
  (type_of% @List.length_append.{0}) ∧
  (type_of% @List.length_set.{0}) ∧
  (type_of% @List.length_map.{0,0}) ∧
  (type_of% @List.length_range) ∧
  (type_of% @List.length_take.{0}) ∧
  (type_of% @List.length_drop.{0}) ∧
  (type_of% @List.getElem?_cons_zero.{0}) ∧
  (type_of% @List.getElem?_cons_succ.{0}) ∧
  (type_of% @List.length_cons.{0}) ∧
  (type_of% @List.length_nil.{0}) ∧
  (type_of% @List.set_cons_zero.{0}) ∧
  (type_of% @List.set_cons_succ.{0}) ∧
  (type_of% @Nat.zero_add) ∧
  (type_of% @Nat.add_zero) ∧
  (type_of% @Nat.mul_one) ∧
  (type_of% @Nat.one_mul) ∧
  (type_of% @Nat.zero_mul) ∧
  (type_of% @Nat.mul_zero) ∧
  (type_of% @Nat.sub_zero) ∧
  (type_of% @Nat.le_refl) ∧
  (type_of% @Option.isSome_none.{0}) ∧
  (type_of% @Option.isSome_some.{0}) ∧
  (type_of% @Bool.not_true) ∧
  (type_of% @Bool.not_false) ∧
  (type_of% @Bool.not_not) ∧
  (type_of% @List.take_zero.{0}) ∧
  (type_of% @List.drop_zero.{0}) ∧
  (type_of% @List.tail_cons.{0}) ∧
  (type_of% @Int.ofNat_eq_natCast) ∧
  (type_of% @Int.cast_ofNat_Int) ∧
  (type_of% @List.take_succ_cons.{0}) ∧
  (type_of% @List.drop_succ_cons.{0}) ∧
  (type_of% @List.take_nil.{0}) ∧
  (type_of% @List.drop_nil.{0}) ∧
  (type_of% @List.flatten_cons.{0}) ∧
  (type_of% @List.flatten_nil.{0}) ∧
  (type_of% @List.all_cons.{0}) ∧
  (type_of% @List.all_nil.{0}) ∧
  (type_of% @Bool.and_true) ∧
  (type_of% @Bool.and_self) ∧
  (type_of% @Bool.true_and) :=
  ⟨@List.contains_nil, @List.contains_cons, @Bool.or_false, @Bool.false_or, @List.getElem?_toArray, @List.getD_cons_zero, @List.getD_cons_succ, @Option.map_some, @Option.bind_some, @Option.map_none, @Option.bind_none, @Option.some_or, @Option.or_none, @Option.none_or, @List.map_cons, @List.map_nil, @List.append_nil, @List.nil_append, @List.cons_append, @List.toList_toArray, @Option.some.injEq, @Bool.true_eq_false, @Bool.false_eq_true, @List.take_length, @List.drop_length, @Nat.min_self, @List.length_replicate, @List.length_append, @List.length_set, @List.length_map, @List.length_range, @List.length_take, @List.length_drop, @List.getElem?_cons_zero, @List.getElem?_cons_succ, @List.length_cons, @List.length_nil, @List.set_cons_zero, @List.set_cons_succ, @Nat.zero_add, @Nat.add_zero, @Nat.mul_one, @Nat.one_mul, @Nat.zero_mul, @Nat.mul_zero, @Nat.sub_zero, @Nat.le_refl, @Option.isSome_none, @Option.isSome_some, @Bool.not_true, @Bool.not_false, @Bool.not_not, @List.take_zero, @List.drop_zero, @List.tail_cons, @Int.ofNat_eq_natCast, @Int.cast_ofNat_Int, @List.take_succ_cons, @List.drop_succ_cons, @List.take_nil, @List.drop_nil, @List.flatten_cons, @List.flatten_nil, @List.all_cons, @List.all_nil, @Bool.and_true, @Bool.and_self, @Bool.true_and⟩
end Go.Ax
namespace Go.Ax
theorem exD :
  (type_of% @Go.Ax.layInts.eq_1) ∧
  (type_of% @Go.Ax.layInts.eq_2) ∧
  (type_of% @Go.Ax.layInts.eq_3) ∧
  (type_of% @Go.Ax.layOnes.eq_1) ∧
  (type_of% @Go.Ax.layOnes.eq_2) ∧
  (type_of% @beq_self_eq_true.{0}) ∧
  (type_of% @bne_self_eq_false.{0}) ∧
  (type_of% @Go.Ax.addPure.eq_1) ∧
  (type_of% @not_false_eq_true) ∧
  (type_of% @not_true_eq_false) ∧
  (type_of% @and_true) ∧
  (type_of% @true_and) ∧
  (type_of% @and_self) ∧
  (type_of% @decide_true) ∧
  (type_of% @decide_false) ∧
  (type_of% @decide_eq_true_eq) ∧
  (type_of% @Go.Ax.layA.eq_1) ∧
  (type_of% @Go.Ax.layA.eq_2) ∧
  (type_of% @Go.Ax.rowPut.eq_1) ∧
  (type_of% @Go.Ax.rowPut.eq_2) ∧
  (type_of% @Go.Ax.rowSet.eq_1) ∧
  (type_of% @Go.Ax.rowSet.eq_2) ∧
  (type_of% @Go.Ax.rowSet.eq_3) ∧
  (type_of% @Go.Ax.rowSet.eq_4) ∧
  (type_of% @Go.Ax.rowSet.eq_5) ∧
  (type_of% @Go.Ax.rowSet.eq_6) ∧
  (type_of% @Go.Ax.rowTake.eq_1) ∧
  (type_of% @Go.Ax.rowTake.eq_2) ∧
  (type_of% @Go.Ax.rowTake.eq_3) ∧
  (type_of% @Go.Ax.rowTake.eq_4) ∧
  (type_of% @Go.Ax.rowDrop.eq_1) ∧
  (type_of% @Go.Ax.rowDrop.eq_2) ∧
  (type_of% @Go.Ax.rowDrop.eq_3) ∧
  (type_of% @Go.Ax.rowDrop.eq_4) ∧
  (type_of% @Go.Ax.rowCell.eq_1) ∧
  (type_of% @Go.Ax.rowCell.eq_2) ∧
  (type_of% @Go.Ax.rowCell.eq_3) ∧
  (type_of% @Go.Ax.rowCell.eq_4) ∧
  (type_of% @Go.Ax.rowCell.eq_5) ∧
  (type_of% @Go.Ax.AV.size.eq_1) ∧
  (type_of% @Go.Ax.AV.size.eq_2) ∧
  (type_of% @Go.Ax.AV.size.eq_3) ∧
  (type_of% @Go.Ax.AV.size.eq_4) ∧
  (type_of% @Go.Ax.AV.size.eq_5) ∧
  (type_of% @Go.Ax.AV.size.eq_6) ∧
  (type_of% @Go.Ax.AV.size.eq_7) ∧
  (type_of% @Go.Ax.AV.size.eq_8) ∧
  (type_of% @Go.Ax.AV.size.eq_9) ∧
  (type_of% @Go.Ax.AV.size.eq_10) ∧
  (type_of% @Go.Ax.AV.size.eq_11) ∧
  (type_of% @Go.Ax.AV.size.eq_12) ∧
  (type_of% @Go.Ax.psize.eq_1) ∧
  (type_of% @Go.Ax.psize.eq_2) ∧
  (type_of% @ge_iff_le.{0}) ∧
  (type_of% @gt_iff_lt.{0}) ∧
  (type_of% @or_true) ∧
  (type_of% @true_or) ∧
  (type_of% @or_false) ∧
  (type_of% @false_or) ∧
  (type_of% @not_true) ∧
  (type_of% @not_false_iff) ∧
  (type_of% @Go.Ax.addNews.eq_1) ∧
  (type_of% @Go.Ax.allOf.eq_1) ∧
  (type_of% @Go.Ax.allOf.eq_2) :=
  ⟨@Go.Ax.layInts.eq_1, @Go.Ax.layInts.eq_2, @Go.Ax.layInts.eq_3, @Go.Ax.layOnes.eq_1, @Go.Ax.layOnes.eq_2, @beq_self_eq_true.{0}, @bne_self_eq_false.{0}, @Go.Ax.addPure.eq_1, @not_false_eq_true, @not_true_eq_false, @and_true, @true_and, @and_self, @decide_true, @decide_false, @decide_eq_true_eq, @Go.Ax.layA.eq_1, @Go.Ax.layA.eq_2, @Go.Ax.rowPut.eq_1, @Go.Ax.rowPut.eq_2, @Go.Ax.rowSet.eq_1, @Go.Ax.rowSet.eq_2, @Go.Ax.rowSet.eq_3, @Go.Ax.rowSet.eq_4, @Go.Ax.rowSet.eq_5, @Go.Ax.rowSet.eq_6, @Go.Ax.rowTake.eq_1, @Go.Ax.rowTake.eq_2, @Go.Ax.rowTake.eq_3, @Go.Ax.rowTake.eq_4, @Go.Ax.rowDrop.eq_1, @Go.Ax.rowDrop.eq_2, @Go.Ax.rowDrop.eq_3, @Go.Ax.rowDrop.eq_4, @Go.Ax.rowCell.eq_1, @Go.Ax.rowCell.eq_2, @Go.Ax.rowCell.eq_3, @Go.Ax.rowCell.eq_4, @Go.Ax.rowCell.eq_5, @Go.Ax.AV.size.eq_1, @Go.Ax.AV.size.eq_2, @Go.Ax.AV.size.eq_3, @Go.Ax.AV.size.eq_4, @Go.Ax.AV.size.eq_5, @Go.Ax.AV.size.eq_6, @Go.Ax.AV.size.eq_7, @Go.Ax.AV.size.eq_8, @Go.Ax.AV.size.eq_9, @Go.Ax.AV.size.eq_10, @Go.Ax.AV.size.eq_11, @Go.Ax.AV.size.eq_12, @Go.Ax.psize.eq_1, @Go.Ax.psize.eq_2, @ge_iff_le.{0}, @gt_iff_lt.{0}, @or_true, @true_or, @or_false, @false_or, @not_true, @not_false_iff, @Go.Ax.addNews.eq_1, @Go.Ax.allOf.eq_1, @Go.Ax.allOf.eq_2⟩
theorem exE :
  (type_of% @ar_nat) ∧
  (type_of% @ar_u64) ∧
  (type_of% @ar_add) ∧
  (type_of% @ar_sub) ∧
  (type_of% @ar_mul) ∧
  (type_of% @ar_div) ∧
  (type_of% @ar_mod) ∧
  (type_of% @ar_dec_t) ∧
  (type_of% @ar_dec_f) ∧
  (type_of% @ar_beq_t) ∧
  (type_of% @ar_beq_f) ∧
  (type_of% @ar_bne_t) ∧
  (type_of% @ar_bne_f) ∧
  (type_of% @ar_guard) ∧
  (type_of% @or_guard) ∧
  (type_of% @ar_take) ∧
  (type_of% @ar_take_drop) ∧
  (type_of% @ar_drop) :=
  ⟨@ar_nat, @ar_u64, @ar_add, @ar_sub, @ar_mul, @ar_div, @ar_mod, @ar_dec_t, @ar_dec_f, @ar_beq_t, @ar_beq_f, @ar_bne_t, @ar_bne_f, @ar_guard, @or_guard, @ar_take, @ar_take_drop, @ar_drop⟩
theorem exF :
  (type_of% @envAll_cons) ∧
  (type_of% @envAll_nil) ∧
  (type_of% @get_put) ∧
  (type_of% @get_envOf) ∧
  (type_of% @get_envL_cons) ∧
  (type_of% @get_envL_nil) ∧
  (type_of% @and_self) ∧
  (type_of% @List.getD_cons_zero.{0}) ∧
  (type_of% @List.getD_cons_succ.{0}) ∧
  (type_of% @and_true) ∧
  (type_of% @true_and) :=
  ⟨@envAll_cons, @envAll_nil, @get_put, @get_envOf, @get_envL_cons, @get_envL_nil, @and_self, @List.getD_cons_zero.{0}, @List.getD_cons_succ.{0}, @and_true, @true_and⟩
end Go.Ax
namespace Go.Ax
theorem exG :
  (type_of% @overwrite.eq_1) ∧
  (type_of% @overwrite.eq_2) ∧
  (type_of% @overwrite.eq_3) ∧
  (type_of% @renL.eq_1) ∧
  (type_of% @renL.eq_2) ∧
  (type_of% @renB.eq_1) ∧
  (type_of% @frameMap.eq_1) ∧
  (type_of% @AV.ren.eq_1) ∧
  (type_of% @AV.ren.eq_2) ∧
  (type_of% @AV.ren.eq_3) ∧
  (type_of% @AV.ren.eq_4) ∧
  (type_of% @AV.ren.eq_5) ∧
  (type_of% @AV.ren.eq_6) ∧
  (type_of% @AV.ren.eq_7) ∧
  (type_of% @AV.ren.eq_8) ∧
  (type_of% @AV.ren.eq_9) ∧
  (type_of% @AV.ren.eq_10) ∧
  (type_of% @AV.ren.eq_11) ∧
  (type_of% @AV.ren.eq_12) :=
  ⟨@overwrite.eq_1, @overwrite.eq_2, @overwrite.eq_3, @renL.eq_1, @renL.eq_2, @renB.eq_1, @frameMap.eq_1, @AV.ren.eq_1, @AV.ren.eq_2, @AV.ren.eq_3, @AV.ren.eq_4, @AV.ren.eq_5, @AV.ren.eq_6, @AV.ren.eq_7, @AV.ren.eq_8, @AV.ren.eq_9, @AV.ren.eq_10, @AV.ren.eq_11, @AV.ren.eq_12⟩
end Go.Ax
namespace Go.Ax
theorem nf : 0 ≤ 0 := Nat.le_refl 0
theorem an {a b : Prop} (x : a) (y : b) : a ∧ b := ⟨x, y⟩
theorem gd {A B : Prop} (b : B) (a : A := by first | omega | assumption) : A ∧ B := ⟨a, b⟩
theorem bd {C : Cfg} (hC : C.Good) {f : FuncId} {fn : Func} {c : Code} {args : List AV} {h : List Blk} {κ : AV → List Blk → Prop} (hf : C.P.funcs[f]? = some fn) (hs : run C c [] ⟨envOf args, h⟩ (retK C.P fn κ)) (hb : fn.body = some c := by rfl)
    (h1 : hasBody C.P f = true := by kernel_rfl) (h2 : Nat.ble args.length fn.ntmps = true := by kernel_rfl) (h3 : Code.dstOk fn.ntmps c = true := by kernel_rfl) (h4 : drawOk C c = true := by kernel_rfl) (hk : h.length = C.k := by rfl) (hrd : C.rd = none := by rfl) : ACall C.P f args h κ :=
  acall_run hC hf hb ⟨h1, Nat.le_of_ble_eq_true h2, h3, h4⟩ hk hs hrd
theorem wk {C : Cfg} {e : Env} {h h' : List Blk} {L : List (Nat × AV)} {F : Prop} (f : F) (hh : F → h = h' := by intro f; first | with_reducible rfl | (simp only [Int.natCast_zero, Int.cast_ofNat_Int, Nat.add_zero, Nat.mul_zero, List.cons_append, List.nil_append, List.append_nil, f] <;> with_reducible rfl))
    (hL : F → envAll e L := by intro f; simp only [exF, Nat.reduceEqDiff, if_true, if_false, reduceIte, Option.some.injEq, reduceCtorEq, Int.natCast_zero, Int.cast_ofNat_Int, Nat.add_zero, Nat.mul_zero, List.cons_append, List.nil_append, List.append_nil, f]) : Weak C ⟨e, h⟩ ⟨envL L, h'⟩ := weak_of (hh f) (hL f)
theorem wgc {C : Cfg} {e : Env} {h h' : List Blk} {L : List (Nat × AV)} {F : Prop} (B : List Nat) (f : F) (hn : B.Nodup := by decide) (hlt : ∀ b ∈ B, b < h.length := by simp) (hk : (List.range C.k).all (fun i => B[i]? == some i) = true := by rfl)
    (hb : F → B.map (fun b => h[b]?) = h'.map (fun x => some (renB (gcMap B h.length) x)) := by intro f; first | with_reducible rfl | (simp only [List.map_cons, List.map_nil, List.getElem?_cons_zero, List.getElem?_cons_succ, renB, renL, Option.map_some, Option.map_none, AV.ren, gcMap, List.getD_cons_zero, List.getD_cons_succ, Int.natCast_zero, Int.cast_ofNat_Int, Nat.add_zero, Nat.mul_zero, List.cons_append, List.nil_append, List.append_nil, f] <;> with_reducible rfl))
    (hL : F → envAll e (L.map fun p => (p.1, p.2.ren (gcMap B h.length))) := by intro f; simp only [List.map_cons, List.map_nil, List.length_cons, List.length_nil, Nat.reduceAdd, AV.ren, renL, gcMap, exF, Nat.reduceEqDiff, if_true, if_false, reduceIte, Option.some.injEq, reduceCtorEq, Int.natCast_zero, Int.cast_ofNat_Int, Nat.add_zero, Nat.mul_zero, List.cons_append, List.nil_append, List.append_nil, f]) : Weak C ⟨e, h⟩ ⟨envL L, h'⟩ := weak_gc' B hn hlt hk (hb f) (hL f)
end Go.Ax

namespace Go.Proofs.Ytfnfmbikooeiaaa
open Go.Ax
theorem tb0 : szT Try.prog 3 = some 1 := by kernel_rfl
theorem tb1 : aggT Try.prog 3 = some false := by kernel_rfl
theorem tb2 : kindT Try.prog 3 = .int .i64 := by kernel_rfl
theorem tb3 : zeroT Try.prog 3 = some [.v (.int .i64 0)] := by kernel_rfl
theorem tb4 : szT Try.prog 4 = some 1 := by kernel_rfl
theorem tb5 : aggT Try.prog 4 = some false := by kernel_rfl
theorem tb6 : kindT Try.prog 4 = .bool := by kernel_rfl
theorem tb7 : zeroT Try.prog 4 = some [.v (.bool false)] := by kernel_rfl
theorem tb8 : szT Try.prog 5 = some 1 := by kernel_rfl
theorem tb9 : aggT Try.prog 5 = some false := by kernel_rfl
theorem tb10 : kindT Try.prog 5 = .int .u8 := by kernel_rfl
theorem tb11 : zeroT Try.prog 5 = some [.v (.int .u8 0)] := by kernel_rfl
theorem tb12 : szT Try.prog 9 = some 1 := by kernel_rfl
theorem tb13 : aggT Try.prog 9 = some false := by kernel_rfl
theorem tb14 : kindT Try.prog 9 = .string := by kernel_rfl
theorem tb15 : zeroT Try.prog 9 = some [.v (.string ⟨#[]⟩)] := by kernel_rfl
theorem tb16 : elemT Try.prog 9 = .str := by kernel_rfl
theorem tb17 : szT Try.prog 22 = some 1 := by kernel_rfl
theorem tb18 : aggT Try.prog 22 = some false := by kernel_rfl
theorem tb19 : kindT Try.prog 22 = .slice true := by kernel_rfl
theorem tb20 : zeroT Try.prog 22 = some [.v (.slice none 0 0)] := by kernel_rfl
theorem tb21 : elemT Try.prog 22 = .sl 1 false false := by kernel_rfl
theorem tb22 : elemSize Try.prog 22 = some 1 := by kernel_rfl
theorem tb23 : elemBytes Try.prog 22 = some 1 := by kernel_rfl
theorem tb24 : listB Try.prog 22 = some 1 := by kernel_rfl
theorem tb25 : elemZ Try.prog 22 = some (.u8, 0) := by kernel_rfl
theorem tb26 : intElem Try.prog 22 = some .u8 := by kernel_rfl
theorem tb27 : szT Try.prog 23 = some 1 := by kernel_rfl
theorem tb28 : aggT Try.prog 23 = some false := by kernel_rfl
theorem tb29 : kindT Try.prog 23 = .int .i64 := by kernel_rfl
theorem tb30 : zeroT Try.prog 23 = some [.v (.int .i64 0)] := by kernel_rfl
theorem tb31 : szT Try.prog 29 = some 1 := by kernel_rfl
theorem tb32 : aggT Try.prog 29 = some false := by kernel_rfl
theorem tb33 : kindT Try.prog 29 = .int .u64 := by kernel_rfl
theorem tb34 : zeroT Try.prog 29 = some [.v (.int .u64 0)] := by kernel_rfl
theorem tb35 : szT Try.prog 30 = some 8 := by kernel_rfl
theorem tb36 : aggT Try.prog 30 = some true := by kernel_rfl
theorem tb37 : kindT Try.prog 30 = .array := by kernel_rfl
theorem tb38 : zeroT Try.prog 30 = some [.arr 8 .u64 (List.replicate 8 0)] := by kernel_rfl
theorem tb39 : intsT Try.prog 30 = true := by kernel_rfl
theorem tb40 : elemT Try.prog 30 = .arr 8 1 false false := by kernel_rfl
theorem tb41 : eqArrT Try.prog 30 = some (8, .u64) := by kernel_rfl
theorem tb42 : sizedT Try.prog 30 = true := by kernel_rfl
theorem tb43 : ∀ i, placeA Try.prog 30 i = some (i * 1, 1, false) := by (intro i; kernel_rfl)
theorem tb44 : szT Try.prog 31 = some 128 := by kernel_rfl
theorem tb45 : aggT Try.prog 31 = some true := by kernel_rfl
theorem tb46 : kindT Try.prog 31 = .array := by kernel_rfl
theorem tb47 : zeroT Try.prog 31 = some [.arr 128 .u8 (List.replicate 128 0)] := by kernel_rfl
theorem tb48 : intsT Try.prog 31 = true := by kernel_rfl
theorem tb49 : elemT Try.prog 31 = .arr 128 1 false false := by kernel_rfl
theorem tb50 : eqArrT Try.prog 31 = some (128, .u8) := by kernel_rfl
theorem tb51 : sizedT Try.prog 31 = true := by kernel_rfl
theorem tb52 : ∀ i, placeA Try.prog 31 i = some (i * 1, 1, false) := by (intro i; kernel_rfl)
theorem tb53 : szT Try.prog 37 = some 1 := by kernel_rfl
theorem tb54 : aggT Try.prog 37 = some false := by kernel_rfl
theorem tb55 : kindT Try.prog 37 = .slice false := by kernel_rfl
theorem tb56 : zeroT Try.prog 37 = some [.v (.slice none 0 0)] := by kernel_rfl
theorem tb57 : elemT Try.prog 37 = .sl 1 false false := by kernel_rfl
theorem tb58 : elemSize Try.prog 37 = some 1 := by kernel_rfl
theorem tb59 : elemBytes Try.prog 37 = some 24 := by kernel_rfl
theorem tb60 : listB Try.prog 37 = some 24 := by kernel_rfl
theorem tb61 : intElem Try.prog 37 = none := by kernel_rfl
theorem tb62 : szT Try.prog 38 = some 1 := by kernel_rfl
theorem tb63 : aggT Try.prog 38 = some false := by kernel_rfl
theorem tb64 : kindT Try.prog 38 = .pointer := by kernel_rfl
theorem tb65 : zeroT Try.prog 38 = some [.v (.pointer none)] := by kernel_rfl
theorem tb66 : szT Try.prog 49 = some 1 := by kernel_rfl
theorem tb67 : aggT Try.prog 49 = some false := by kernel_rfl
theorem tb68 : kindT Try.prog 49 = .int .u32 := by kernel_rfl
theorem tb69 : zeroT Try.prog 49 = some [.v (.int .u32 0)] := by kernel_rfl
theorem tb70 : szT Try.prog 52 = some 128 := by kernel_rfl
theorem tb71 : aggT Try.prog 52 = some true := by kernel_rfl
theorem tb72 : kindT Try.prog 52 = .array := by kernel_rfl
theorem tb73 : zeroT Try.prog 52 = some [.arr 128 .u64 (List.replicate 128 0)] := by kernel_rfl
theorem tb74 : intsT Try.prog 52 = true := by kernel_rfl
theorem tb75 : elemT Try.prog 52 = .arr 128 1 false false := by kernel_rfl
theorem tb76 : eqArrT Try.prog 52 = some (128, .u64) := by kernel_rfl
theorem tb77 : sizedT Try.prog 52 = true := by kernel_rfl
theorem tb78 : ∀ i, placeA Try.prog 52 i = some (i * 1, 1, false) := by (intro i; kernel_rfl)
theorem tb79 : szT Try.prog 53 = some 128 := by kernel_rfl
theorem tb80 : aggT Try.prog 53 = some true := by kernel_rfl
theorem tb81 : kindT Try.prog 53 = .array := by kernel_rfl
theorem tb82 : zeroT Try.prog 53 = some [.arr 128 .u64 (List.replicate 128 0)] := by kernel_rfl
theorem tb83 : intsT Try.prog 53 = true := by kernel_rfl
theorem tb84 : elemT Try.prog 53 = .arr 128 1 false false := by kernel_rfl
theorem tb85 : eqArrT Try.prog 53 = some (128, .u64) := by kernel_rfl
theorem tb86 : sizedT Try.prog 53 = true := by kernel_rfl
theorem tb87 : ∀ i, placeA Try.prog 53 i = some (i * 1, 1, false) := by (intro i; kernel_rfl)
theorem tb88 : szT Try.prog 59 = some 1 := by kernel_rfl
theorem tb89 : aggT Try.prog 59 = some false := by kernel_rfl
theorem tb90 : kindT Try.prog 59 = .int .u64 := by kernel_rfl
theorem tb91 : zeroT Try.prog 59 = some [.v (.int .u64 0)] := by kernel_rfl
theorem tb92 : szT Try.prog 60 = some 16 := by kernel_rfl
theorem tb93 : aggT Try.prog 60 = some true := by kernel_rfl
theorem tb94 : kindT Try.prog 60 = .array := by kernel_rfl
theorem tb95 : zeroT Try.prog 60 = some [.arr 16 .u64 (List.replicate 16 0)] := by kernel_rfl
theorem tb96 : intsT Try.prog 60 = true := by kernel_rfl
theorem tb97 : elemT Try.prog 60 = .arr 16 1 false false := by kernel_rfl
theorem tb98 : eqArrT Try.prog 60 = some (16, .u64) := by kernel_rfl
theorem tb99 : sizedT Try.prog 60 = true := by kernel_rfl
theorem tb100 : ∀ i, placeA Try.prog 60 i = some (i * 1, 1, false) := by (intro i; kernel_rfl)
theorem tb101 : szT Try.prog 65 = some 3 := by kernel_rfl
theorem tb102 : aggT Try.prog 65 = some true := by kernel_rfl
theorem tb103 : kindT Try.prog 65 = .struct := by kernel_rfl
theorem tb104 : zeroT Try.prog 65 = some [.v (.int .i64 0), .v (.int .i64 0), .v (.int .i64 0)] := by kernel_rfl
theorem tb105 : sizedT Try.prog 65 = true := by kernel_rfl
theorem tb106 : intsT Try.prog 65 = false := by kernel_rfl
theorem tb107 : placeA Try.prog 65 0 = some (0, 1, false) := by kernel_rfl
theorem tb108 : fieldT Try.prog 65 0 = some (0, 1, false, false) := by kernel_rfl
theorem tb109 : placeA Try.prog 65 1 = some (1, 1, false) := by kernel_rfl
theorem tb110 : fieldT Try.prog 65 1 = some (1, 1, false, false) := by kernel_rfl
theorem tb111 : placeA Try.prog 65 2 = some (2, 1, false) := by kernel_rfl
theorem tb112 : fieldT Try.prog 65 2 = some (2, 1, false, false) := by kernel_rfl
theorem tb113 : szT Try.prog 66 = some 3 := by kernel_rfl
theorem tb114 : aggT Try.prog 66 = some true := by kernel_rfl
theorem tb115 : kindT Try.prog 66 = .struct := by kernel_rfl
theorem tb116 : zeroT Try.prog 66 = some [.v (.int .i64 0), .v (.int .i64 0), .v (.int .i64 0)] := by kernel_rfl
theorem tb117 : sizedT Try.prog 66 = true := by kernel_rfl
theorem tb118 : intsT Try.prog 66 = false := by kernel_rfl
theorem tb119 : placeA Try.prog 66 0 = some (0, 1, false) := by kernel_rfl
theorem tb120 : fieldT Try.prog 66 0 = some (0, 1, false, false) := by kernel_rfl
theorem tb121 : placeA Try.prog 66 1 = some (1, 1, false) := by kernel_rfl
theorem tb122 : fieldT Try.prog 66 1 = some (1, 1, false, false) := by kernel_rfl
theorem tb123 : placeA Try.prog 66 2 = some (2, 1, false) := by kernel_rfl
theorem tb124 : fieldT Try.prog 66 2 = some (2, 1, false, false) := by kernel_rfl
theorem tb125 : szT Try.prog 67 = some 4 := by kernel_rfl
theorem tb126 : aggT Try.prog 67 = some true := by kernel_rfl
theorem tb127 : kindT Try.prog 67 = .struct := by kernel_rfl
theorem tb128 : zeroT Try.prog 67 = some [.v (.slice none 0 0), .v (.slice none 0 0), .v (.slice none 0 0), .v (.slice none 0 0)] := by kernel_rfl
theorem tb129 : sizedT Try.prog 67 = true := by kernel_rfl
theorem tb130 : intsT Try.prog 67 = false := by kernel_rfl
theorem tb131 : placeA Try.prog 67 0 = some (0, 1, false) := by kernel_rfl
theorem tb132 : fieldT Try.prog 67 0 = some (0, 1, false, false) := by kernel_rfl
theorem tb133 : placeA Try.prog 67 1 = some (1, 1, false) := by kernel_rfl
theorem tb134 : fieldT Try.prog 67 1 = some (1, 1, false, false) := by kernel_rfl
theorem tb135 : placeA Try.prog 67 2 = some (2, 1, false) := by kernel_rfl
theorem tb136 : fieldT Try.prog 67 2 = some (2, 1, false, false) := by kernel_rfl
theorem tb137 : placeA Try.prog 67 3 = some (3, 1, false) := by kernel_rfl
theorem tb138 : fieldT Try.prog 67 3 = some (3, 1, false, false) := by kernel_rfl
theorem tb139 : szT Try.prog 68 = some 4 := by kernel_rfl
theorem tb140 : aggT Try.prog 68 = some true := by kernel_rfl
theorem tb141 : kindT Try.prog 68 = .struct := by kernel_rfl
theorem tb142 : zeroT Try.prog 68 = some [.v (.slice none 0 0), .v (.slice none 0 0), .v (.slice none 0 0), .v (.slice none 0 0)] := by kernel_rfl
theorem tb143 : sizedT Try.prog 68 = true := by kernel_rfl
theorem tb144 : intsT Try.prog 68 = false := by kernel_rfl
theorem tb145 : placeA Try.prog 68 0 = some (0, 1, false) := by kernel_rfl
theorem tb146 : fieldT Try.prog 68 0 = some (0, 1, false, false) := by kernel_rfl
theorem tb147 : placeA Try.prog 68 1 = some (1, 1, false) := by kernel_rfl
theorem tb148 : fieldT Try.prog 68 1 = some (1, 1, false, false) := by kernel_rfl
theorem tb149 : placeA Try.prog 68 2 = some (2, 1, false) := by kernel_rfl
theorem tb150 : fieldT Try.prog 68 2 = some (2, 1, false, false) := by kernel_rfl
theorem tb151 : placeA Try.prog 68 3 = some (3, 1, false) := by kernel_rfl
theorem tb152 : fieldT Try.prog 68 3 = some (3, 1, false, false) := by kernel_rfl
theorem tb153 : szT Try.prog 74 = some 16 := by kernel_rfl
theorem tb154 : aggT Try.prog 74 = some true := by kernel_rfl
theorem tb155 : kindT Try.prog 74 = .array := by kernel_rfl
theorem tb156 : zeroT Try.prog 74 = some [.arr 16 .u64 (List.replicate 16 0)] := by kernel_rfl
theorem tb157 : intsT Try.prog 74 = true := by kernel_rfl
theorem tb158 : elemT Try.prog 74 = .arr 16 1 false false := by kernel_rfl
theorem tb159 : eqArrT Try.prog 74 = some (16, .u64) := by kernel_rfl
theorem tb160 : sizedT Try.prog 74 = true := by kernel_rfl
theorem tb161 : ∀ i, placeA Try.prog 74 i = some (i * 1, 1, false) := by (intro i; kernel_rfl)
theorem tb162 : szT Try.prog 75 = some 1 := by kernel_rfl
theorem tb163 : aggT Try.prog 75 = some false := by kernel_rfl
theorem tb164 : kindT Try.prog 75 = .slice false := by kernel_rfl
theorem tb165 : zeroT Try.prog 75 = some [.v (.slice none 0 0)] := by kernel_rfl
theorem tb166 : elemT Try.prog 75 = .sl 1 false false := by kernel_rfl
theorem tb167 : elemSize Try.prog 75 = some 1 := by kernel_rfl
theorem tb168 : elemBytes Try.prog 75 = some 8 := by kernel_rfl
theorem tb169 : listB Try.prog 75 = some 8 := by kernel_rfl
theorem tb170 : elemZ Try.prog 75 = some (.u64, 0) := by kernel_rfl
theorem tb171 : intElem Try.prog 75 = some .u64 := by kernel_rfl
theorem tb172 : szT Try.prog 80 = some 11 := by kernel_rfl
theorem tb173 : aggT Try.prog 80 = some true := by kernel_rfl
theorem tb174 : kindT Try.prog 80 = .struct := by kernel_rfl
theorem tb175 : zeroT Try.prog 80 = some [.arr 8 .u64 (List.replicate 8 0), .v (.int .i64 0), .v (.slice none 0 0), .v (.int .u64 0)] := by kernel_rfl
theorem tb176 : sizedT Try.prog 80 = true := by kernel_rfl
theorem tb177 : intsT Try.prog 80 = false := by kernel_rfl
theorem tb178 : placeA Try.prog 80 0 = some (0, 8, true) := by kernel_rfl
theorem tb179 : fieldT Try.prog 80 0 = some (0, 8, true, true) := by kernel_rfl
theorem tb180 : placeA Try.prog 80 1 = some (8, 1, false) := by kernel_rfl
theorem tb181 : fieldT Try.prog 80 1 = some (8, 1, false, false) := by kernel_rfl
theorem tb182 : placeA Try.prog 80 2 = some (9, 1, false) := by kernel_rfl
theorem tb183 : fieldT Try.prog 80 2 = some (9, 1, false, false) := by kernel_rfl
theorem tb184 : placeA Try.prog 80 3 = some (10, 1, false) := by kernel_rfl
theorem tb185 : fieldT Try.prog 80 3 = some (10, 1, false, false) := by kernel_rfl
theorem tb186 : szT Try.prog 81 = some 11 := by kernel_rfl
theorem tb187 : aggT Try.prog 81 = some true := by kernel_rfl
theorem tb188 : kindT Try.prog 81 = .struct := by kernel_rfl
theorem tb189 : zeroT Try.prog 81 = some [.arr 8 .u64 (List.replicate 8 0), .v (.int .i64 0), .v (.slice none 0 0), .v (.int .u64 0)] := by kernel_rfl
theorem tb190 : sizedT Try.prog 81 = true := by kernel_rfl
theorem tb191 : intsT Try.prog 81 = false := by kernel_rfl
theorem tb192 : placeA Try.prog 81 0 = some (0, 8, true) := by kernel_rfl
theorem tb193 : fieldT Try.prog 81 0 = some (0, 8, true, true) := by kernel_rfl
theorem tb194 : placeA Try.prog 81 1 = some (8, 1, false) := by kernel_rfl
theorem tb195 : fieldT Try.prog 81 1 = some (8, 1, false, false) := by kernel_rfl
theorem tb196 : placeA Try.prog 81 2 = some (9, 1, false) := by kernel_rfl
theorem tb197 : fieldT Try.prog 81 2 = some (9, 1, false, false) := by kernel_rfl
theorem tb198 : placeA Try.prog 81 3 = some (10, 1, false) := by kernel_rfl
theorem tb199 : fieldT Try.prog 81 3 = some (10, 1, false, false) := by kernel_rfl
theorem tb200 : szT Try.prog 87 = some 1 := by kernel_rfl
theorem tb201 : aggT Try.prog 87 = some false := by kernel_rfl
theorem tb202 : kindT Try.prog 87 = .pointer := by kernel_rfl
theorem tb203 : zeroT Try.prog 87 = some [.v (.pointer none)] := by kernel_rfl
theorem tb204 : szT Try.prog 88 = some 16 := by kernel_rfl
theorem tb205 : aggT Try.prog 88 = some true := by kernel_rfl
theorem tb206 : kindT Try.prog 88 = .array := by kernel_rfl
theorem tb207 : zeroT Try.prog 88 = some [.v (.pointer none), .v (.pointer none), .v (.pointer none), .v (.pointer none), .v (.pointer none), .v (.pointer none), .v (.pointer none), .v (.pointer none), .v (.pointer none), .v (.pointer none), .v (.pointer none), .v (.pointer none), .v (.pointer none), .v (.pointer none), .v (.pointer none), .v (.pointer none)] := by kernel_rfl
theorem tb208 : intsT Try.prog 88 = false := by kernel_rfl
theorem tb209 : elemT Try.prog 88 = .arr 16 1 false false := by kernel_rfl
theorem tb210 : sizedT Try.prog 88 = true := by kernel_rfl
theorem tb211 : ∀ i, placeA Try.prog 88 i = some (i * 1, 1, false) := by (intro i; kernel_rfl)
theorem tb212 : szT Try.prog 90 = some 1 := by kernel_rfl
theorem tb213 : aggT Try.prog 90 = some false := by kernel_rfl
theorem tb214 : kindT Try.prog 90 = .pointer := by kernel_rfl
theorem tb215 : zeroT Try.prog 90 = some [.v (.pointer none)] := by kernel_rfl
theorem tb216 : elemT Try.prog 90 = .parr 16 1 := by kernel_rfl
theorem tb217 : szT Try.prog 92 = some 1 := by kernel_rfl
theorem tb218 : aggT Try.prog 92 = some false := by kernel_rfl
theorem tb219 : kindT Try.prog 92 = .pointer := by kernel_rfl
theorem tb220 : zeroT Try.prog 92 = some [.v (.pointer none)] := by kernel_rfl
theorem tb221 : szT Try.prog 95 = some 4 := by kernel_rfl
theorem tb222 : aggT Try.prog 95 = some true := by kernel_rfl
theorem tb223 : kindT Try.prog 95 = .struct := by kernel_rfl
theorem tb224 : zeroT Try.prog 95 = some [.v (.int .i64 0), .v (.int .i64 0), .v (.int .i64 0), .v (.int .i64 0)] := by kernel_rfl
theorem tb225 : sizedT Try.prog 95 = true := by kernel_rfl
theorem tb226 : intsT Try.prog 95 = false := by kernel_rfl
theorem tb227 : placeA Try.prog 95 0 = some (0, 1, false) := by kernel_rfl
theorem tb228 : fieldT Try.prog 95 0 = some (0, 1, false, false) := by kernel_rfl
theorem tb229 : placeA Try.prog 95 1 = some (1, 1, false) := by kernel_rfl
theorem tb230 : fieldT Try.prog 95 1 = some (1, 1, false, false) := by kernel_rfl
theorem tb231 : placeA Try.prog 95 2 = some (2, 1, false) := by kernel_rfl
theorem tb232 : fieldT Try.prog 95 2 = some (2, 1, false, false) := by kernel_rfl
theorem tb233 : placeA Try.prog 95 3 = some (3, 1, false) := by kernel_rfl
theorem tb234 : fieldT Try.prog 95 3 = some (3, 1, false, false) := by kernel_rfl
theorem tb235 : szT Try.prog 96 = some 4 := by kernel_rfl
theorem tb236 : aggT Try.prog 96 = some true := by kernel_rfl
theorem tb237 : kindT Try.prog 96 = .struct := by kernel_rfl
theorem tb238 : zeroT Try.prog 96 = some [.v (.int .i64 0), .v (.int .i64 0), .v (.int .i64 0), .v (.int .i64 0)] := by kernel_rfl
theorem tb239 : sizedT Try.prog 96 = true := by kernel_rfl
theorem tb240 : intsT Try.prog 96 = false := by kernel_rfl
theorem tb241 : placeA Try.prog 96 0 = some (0, 1, false) := by kernel_rfl
theorem tb242 : fieldT Try.prog 96 0 = some (0, 1, false, false) := by kernel_rfl
theorem tb243 : placeA Try.prog 96 1 = some (1, 1, false) := by kernel_rfl
theorem tb244 : fieldT Try.prog 96 1 = some (1, 1, false, false) := by kernel_rfl
theorem tb245 : placeA Try.prog 96 2 = some (2, 1, false) := by kernel_rfl
theorem tb246 : fieldT Try.prog 96 2 = some (2, 1, false, false) := by kernel_rfl
theorem tb247 : placeA Try.prog 96 3 = some (3, 1, false) := by kernel_rfl
theorem tb248 : fieldT Try.prog 96 3 = some (3, 1, false, false) := by kernel_rfl
theorem tb249 : szT Try.prog 97 = some 1 := by kernel_rfl
theorem tb250 : aggT Try.prog 97 = some false := by kernel_rfl
theorem tb251 : kindT Try.prog 97 = .slice false := by kernel_rfl
theorem tb252 : zeroT Try.prog 97 = some [.v (.slice none 0 0)] := by kernel_rfl
theorem tb253 : elemT Try.prog 97 = .sl 1 false false := by kernel_rfl
theorem tb254 : elemSize Try.prog 97 = some 1 := by kernel_rfl
theorem tb255 : elemBytes Try.prog 97 = some 24 := by kernel_rfl
theorem tb256 : listB Try.prog 97 = some 24 := by kernel_rfl
theorem tb257 : intElem Try.prog 97 = none := by kernel_rfl
theorem tb258 : szT Try.prog 98 = some 5 := by kernel_rfl
theorem tb259 : aggT Try.prog 98 = some true := by kernel_rfl
theorem tb260 : kindT Try.prog 98 = .struct := by kernel_rfl
theorem tb261 : zeroT Try.prog 98 = some [.v (.int .i64 0), .v (.int .i64 0), .v (.int .i64 0), .v (.slice none 0 0), .v (.int .i64 0)] := by kernel_rfl
theorem tb262 : sizedT Try.prog 98 = true := by kernel_rfl
theorem tb263 : intsT Try.prog 98 = false := by kernel_rfl
theorem tb264 : placeA Try.prog 98 0 = some (0, 3, true) := by kernel_rfl
theorem tb265 : fieldT Try.prog 98 0 = some (0, 3, true, false) := by kernel_rfl
theorem tb266 : placeA Try.prog 98 1 = some (3, 1, false) := by kernel_rfl
theorem tb267 : fieldT Try.prog 98 1 = some (3, 1, false, false) := by kernel_rfl
theorem tb268 : placeA Try.prog 98 2 = some (4, 1, false) := by kernel_rfl
theorem tb269 : fieldT Try.prog 98 2 = some (4, 1, false, false) := by kernel_rfl
theorem tb270 : szT Try.prog 99 = some 5 := by kernel_rfl
theorem tb271 : aggT Try.prog 99 = some true := by kernel_rfl
theorem tb272 : kindT Try.prog 99 = .struct := by kernel_rfl
theorem tb273 : zeroT Try.prog 99 = some [.v (.int .i64 0), .v (.int .i64 0), .v (.int .i64 0), .v (.slice none 0 0), .v (.int .i64 0)] := by kernel_rfl
theorem tb274 : sizedT Try.prog 99 = true := by kernel_rfl
theorem tb275 : intsT Try.prog 99 = false := by kernel_rfl
theorem tb276 : placeA Try.prog 99 0 = some (0, 3, true) := by kernel_rfl
theorem tb277 : fieldT Try.prog 99 0 = some (0, 3, true, false) := by kernel_rfl
theorem tb278 : placeA Try.prog 99 1 = some (3, 1, false) := by kernel_rfl
theorem tb279 : fieldT Try.prog 99 1 = some (3, 1, false, false) := by kernel_rfl
theorem tb280 : placeA Try.prog 99 2 = some (4, 1, false) := by kernel_rfl
theorem tb281 : fieldT Try.prog 99 2 = some (4, 1, false, false) := by kernel_rfl
theorem tb282 : szT Try.prog 100 = some 1 := by kernel_rfl
theorem tb283 : aggT Try.prog 100 = some false := by kernel_rfl
theorem tb284 : kindT Try.prog 100 = .slice false := by kernel_rfl
theorem tb285 : zeroT Try.prog 100 = some [.v (.slice none 0 0)] := by kernel_rfl
theorem tb286 : elemT Try.prog 100 = .sl 128 true true := by kernel_rfl
theorem tb287 : elemSize Try.prog 100 = some 128 := by kernel_rfl
theorem tb288 : elemBytes Try.prog 100 = some 1024 := by kernel_rfl
theorem tb289 : intElem Try.prog 100 = none := by kernel_rfl
theorem tb290 : szT Try.prog 101 = some 1 := by kernel_rfl
theorem tb291 : aggT Try.prog 101 = some false := by kernel_rfl
theorem tb292 : kindT Try.prog 101 = .pointer := by kernel_rfl
theorem tb293 : zeroT Try.prog 101 = some [.v (.pointer none)] := by kernel_rfl
theorem tb294 : szT Try.prog 102 = some 9 := by kernel_rfl
theorem tb295 : aggT Try.prog 102 = some true := by kernel_rfl
theorem tb296 : kindT Try.prog 102 = .struct := by kernel_rfl
theorem tb297 : zeroT Try.prog 102 = some [.v (.int .i64 0), .v (.int .i64 0), .v (.int .i64 0), .v (.int .i64 0), .v (.slice none 0 0), .v (.int .i64 0), .v (.int .i64 0), .v (.int .i64 0), .v (.int .i64 0)] := by kernel_rfl
theorem tb298 : sizedT Try.prog 102 = true := by kernel_rfl
theorem tb299 : intsT Try.prog 102 = false := by kernel_rfl
theorem tb300 : placeA Try.prog 102 0 = some (0, 3, true) := by kernel_rfl
theorem tb301 : fieldT Try.prog 102 0 = some (0, 3, true, false) := by kernel_rfl
theorem tb302 : placeA Try.prog 102 1 = some (3, 1, false) := by kernel_rfl
theorem tb303 : fieldT Try.prog 102 1 = some (3, 1, false, false) := by kernel_rfl
theorem tb304 : placeA Try.prog 102 2 = some (4, 1, false) := by kernel_rfl
theorem tb305 : fieldT Try.prog 102 2 = some (4, 1, false, false) := by kernel_rfl
theorem tb306 : placeA Try.prog 102 3 = some (5, 1, false) := by kernel_rfl
theorem tb307 : fieldT Try.prog 102 3 = some (5, 1, false, false) := by kernel_rfl
theorem tb308 : placeA Try.prog 102 4 = some (6, 1, false) := by kernel_rfl
theorem tb309 : fieldT Try.prog 102 4 = some (6, 1, false, false) := by kernel_rfl
theorem tb310 : placeA Try.prog 102 5 = some (7, 1, false) := by kernel_rfl
theorem tb311 : fieldT Try.prog 102 5 = some (7, 1, false, false) := by kernel_rfl
theorem tb312 : placeA Try.prog 102 6 = some (8, 1, false) := by kernel_rfl
theorem tb313 : fieldT Try.prog 102 6 = some (8, 1, false, false) := by kernel_rfl
theorem tb314 : szT Try.prog 103 = some 9 := by kernel_rfl
theorem tb315 : aggT Try.prog 103 = some true := by kernel_rfl
theorem tb316 : kindT Try.prog 103 = .struct := by kernel_rfl
theorem tb317 : zeroT Try.prog 103 = some [.v (.int .i64 0), .v (.int .i64 0), .v (.int .i64 0), .v (.int .i64 0), .v (.slice none 0 0), .v (.int .i64 0), .v (.int .i64 0), .v (.int .i64 0), .v (.int .i64 0)] := by kernel_rfl
theorem tb318 : sizedT Try.prog 103 = true := by kernel_rfl
theorem tb319 : intsT Try.prog 103 = false := by kernel_rfl
theorem tb320 : placeA Try.prog 103 0 = some (0, 3, true) := by kernel_rfl
theorem tb321 : fieldT Try.prog 103 0 = some (0, 3, true, false) := by kernel_rfl
theorem tb322 : placeA Try.prog 103 1 = some (3, 1, false) := by kernel_rfl
theorem tb323 : fieldT Try.prog 103 1 = some (3, 1, false, false) := by kernel_rfl
theorem tb324 : placeA Try.prog 103 2 = some (4, 1, false) := by kernel_rfl
theorem tb325 : fieldT Try.prog 103 2 = some (4, 1, false, false) := by kernel_rfl
theorem tb326 : placeA Try.prog 103 3 = some (5, 1, false) := by kernel_rfl
theorem tb327 : fieldT Try.prog 103 3 = some (5, 1, false, false) := by kernel_rfl
theorem tb328 : placeA Try.prog 103 4 = some (6, 1, false) := by kernel_rfl
theorem tb329 : fieldT Try.prog 103 4 = some (6, 1, false, false) := by kernel_rfl
theorem tb330 : placeA Try.prog 103 5 = some (7, 1, false) := by kernel_rfl
theorem tb331 : fieldT Try.prog 103 5 = some (7, 1, false, false) := by kernel_rfl
theorem tb332 : placeA Try.prog 103 6 = some (8, 1, false) := by kernel_rfl
theorem tb333 : fieldT Try.prog 103 6 = some (8, 1, false, false) := by kernel_rfl
theorem tb334 : szT Try.prog 106 = some 6 := by kernel_rfl
theorem tb335 : aggT Try.prog 106 = some true := by kernel_rfl
theorem tb336 : kindT Try.prog 106 = .array := by kernel_rfl
theorem tb337 : zeroT Try.prog 106 = some [.arr 6 .i64 (List.replicate 6 0)] := by kernel_rfl
theorem tb338 : intsT Try.prog 106 = true := by kernel_rfl
theorem tb339 : elemT Try.prog 106 = .arr 6 1 false false := by kernel_rfl
theorem tb340 : eqArrT Try.prog 106 = some (6, .i64) := by kernel_rfl
theorem tb341 : sizedT Try.prog 106 = true := by kernel_rfl
theorem tb342 : ∀ i, placeA Try.prog 106 i = some (i * 1, 1, false) := by (intro i; kernel_rfl)
theorem tb343 : szT Try.prog 107 = some 4 := by kernel_rfl
theorem tb344 : aggT Try.prog 107 = some true := by kernel_rfl
theorem tb345 : kindT Try.prog 107 = .array := by kernel_rfl
theorem tb346 : zeroT Try.prog 107 = some [.v (.slice none 0 0), .v (.slice none 0 0), .v (.slice none 0 0), .v (.slice none 0 0)] := by kernel_rfl
theorem tb347 : intsT Try.prog 107 = false := by kernel_rfl
theorem tb348 : elemT Try.prog 107 = .arr 4 1 false false := by kernel_rfl
theorem tb349 : sizedT Try.prog 107 = true := by kernel_rfl
theorem tb350 : ∀ i, placeA Try.prog 107 i = some (i * 1, 1, false) := by (intro i; kernel_rfl)
theorem tb351 : szT Try.prog 108 = some 1 := by kernel_rfl
theorem tb352 : aggT Try.prog 108 = some false := by kernel_rfl
theorem tb353 : kindT Try.prog 108 = .slice false := by kernel_rfl
theorem tb354 : zeroT Try.prog 108 = some [.v (.slice none 0 0)] := by kernel_rfl
theorem tb355 : elemT Try.prog 108 = .sl 1 false false := by kernel_rfl
theorem tb356 : elemSize Try.prog 108 = some 1 := by kernel_rfl
theorem tb357 : elemBytes Try.prog 108 = some 8 := by kernel_rfl
theorem tb358 : listB Try.prog 108 = some 8 := by kernel_rfl
theorem tb359 : elemZ Try.prog 108 = some (.i64, 0) := by kernel_rfl
theorem tb360 : intElem Try.prog 108 = some .i64 := by kernel_rfl
theorem tb361 : szT Try.prog 109 = some 1 := by kernel_rfl
theorem tb362 : aggT Try.prog 109 = some false := by kernel_rfl
theorem tb363 : kindT Try.prog 109 = .pointer := by kernel_rfl
theorem tb364 : zeroT Try.prog 109 = some [.v (.pointer none)] := by kernel_rfl
theorem tb365 : elemT Try.prog 109 = .parr 16 1 := by kernel_rfl
theorem tz22 (c : Nat) : elemZero Try.prog 22 c = some [.arr c .u8 (List.replicate c 0)] := by kernel_rfl
theorem tz37 (c : Nat) : elemZero Try.prog 37 c = some [.lst 1 (List.replicate c (.v (.slice none 0 0)))] := by kernel_rfl
theorem tz75 (c : Nat) : elemZero Try.prog 75 c = some [.arr c .u64 (List.replicate c 0)] := by kernel_rfl
theorem tz97 (c : Nat) : elemZero Try.prog 97 c = some [.lst 1 (List.replicate c (.v (.slice none 0 0)))] := by kernel_rfl
theorem tz100 (c : Nat) : elemZero Try.prog 100 c = some [.arr (c * 128) .u64 (List.replicate c (List.replicate 128 0)).flatten] := by kernel_rfl
theorem tz108 (c : Nat) : elemZero Try.prog 108 c = some [.arr c .i64 (List.replicate c 0)] := by kernel_rfl
theorem tabs : (szT Try.prog 3 = some 1) ∧
  (aggT Try.prog 3 = some false) ∧
  (kindT Try.prog 3 = .int .i64) ∧
  (zeroT Try.prog 3 = some [.v (.int .i64 0)]) ∧
  (szT Try.prog 4 = some 1) ∧
  (aggT Try.prog 4 = some false) ∧
  (kindT Try.prog 4 = .bool) ∧
  (zeroT Try.prog 4 = some [.v (.bool false)]) ∧
  (szT Try.prog 5 = some 1) ∧
  (aggT Try.prog 5 = some false) ∧
  (kindT Try.prog 5 = .int .u8) ∧
  (zeroT Try.prog 5 = some [.v (.int .u8 0)]) ∧
  (szT Try.prog 9 = some 1) ∧
  (aggT Try.prog 9 = some false) ∧
  (kindT Try.prog 9 = .string) ∧
  (zeroT Try.prog 9 = some [.v (.string ⟨#[]⟩)]) ∧
  (elemT Try.prog 9 = .str) ∧
  (szT Try.prog 22 = some 1) ∧
  (aggT Try.prog 22 = some false) ∧
  (kindT Try.prog 22 = .slice true) ∧
  (zeroT Try.prog 22 = some [.v (.slice none 0 0)]) ∧
  (elemT Try.prog 22 = .sl 1 false false) ∧
  (elemSize Try.prog 22 = some 1) ∧
  (elemBytes Try.prog 22 = some 1) ∧
  (listB Try.prog 22 = some 1) ∧
  (elemZ Try.prog 22 = some (.u8, 0)) ∧
  (intElem Try.prog 22 = some .u8) ∧
  (szT Try.prog 23 = some 1) ∧
  (aggT Try.prog 23 = some false) ∧
  (kindT Try.prog 23 = .int .i64) ∧
  (zeroT Try.prog 23 = some [.v (.int .i64 0)]) ∧
  (szT Try.prog 29 = some 1) ∧
  (aggT Try.prog 29 = some false) ∧
  (kindT Try.prog 29 = .int .u64) ∧
  (zeroT Try.prog 29 = some [.v (.int .u64 0)]) ∧
  (szT Try.prog 30 = some 8) ∧
  (aggT Try.prog 30 = some true) ∧
  (kindT Try.prog 30 = .array) ∧
  (zeroT Try.prog 30 = some [.arr 8 .u64 (List.replicate 8 0)]) ∧
  (intsT Try.prog 30 = true) ∧
  (elemT Try.prog 30 = .arr 8 1 false false) ∧
  (eqArrT Try.prog 30 = some (8, .u64)) ∧
  (sizedT Try.prog 30 = true) ∧
  (∀ i, placeA Try.prog 30 i = some (i * 1, 1, false)) ∧
  (szT Try.prog 31 = some 128) ∧
  (aggT Try.prog 31 = some true) ∧
  (kindT Try.prog 31 = .array) ∧
  (zeroT Try.prog 31 = some [.arr 128 .u8 (List.replicate 128 0)]) ∧
  (intsT Try.prog 31 = true) ∧
  (elemT Try.prog 31 = .arr 128 1 false false) ∧
  (eqArrT Try.prog 31 = some (128, .u8)) ∧
  (sizedT Try.prog 31 = true) ∧
  (∀ i, placeA Try.prog 31 i = some (i * 1, 1, false)) ∧
  (szT Try.prog 37 = some 1) ∧
  (aggT Try.prog 37 = some false) ∧
  (kindT Try.prog 37 = .slice false) ∧
  (zeroT Try.prog 37 = some [.v (.slice none 0 0)]) ∧
  (elemT Try.prog 37 = .sl 1 false false) ∧
  (elemSize Try.prog 37 = some 1) ∧
  (elemBytes Try.prog 37 = some 24) ∧
  (listB Try.prog 37 = some 24) ∧
  (intElem Try.prog 37 = none) ∧
  (szT Try.prog 38 = some 1) ∧
  (aggT Try.prog 38 = some false) ∧
  (kindT Try.prog 38 = .pointer) ∧
  (zeroT Try.prog 38 = some [.v (.pointer none)]) ∧
  (szT Try.prog 49 = some 1) ∧
  (aggT Try.prog 49 = some false) ∧
  (kindT Try.prog 49 = .int .u32) ∧
  (zeroT Try.prog 49 = some [.v (.int .u32 0)]) ∧
  (szT Try.prog 52 = some 128) ∧
  (aggT Try.prog 52 = some true) ∧
  (kindT Try.prog 52 = .array) ∧
  (zeroT Try.prog 52 = some [.arr 128 .u64 (List.replicate 128 0)]) ∧
  (intsT Try.prog 52 = true) ∧
  (elemT Try.prog 52 = .arr 128 1 false false) ∧
  (eqArrT Try.prog 52 = some (128, .u64)) ∧
  (sizedT Try.prog 52 = true) ∧
  (∀ i, placeA Try.prog 52 i = some (i * 1, 1, false)) ∧
  (szT Try.prog 53 = some 128) ∧
  (aggT Try.prog 53 = some true) ∧
  (kindT Try.prog 53 = .array) ∧
  (zeroT Try.prog 53 = some [.arr 128 .u64 (List.replicate 128 0)]) ∧
  (intsT Try.prog 53 = true) ∧
  (elemT Try.prog 53 = .arr 128 1 false false) ∧
  (eqArrT Try.prog 53 = some (128, .u64)) ∧
  (sizedT Try.prog 53 = true) ∧
  (∀ i, placeA Try.prog 53 i = some (i * 1, 1, false)) ∧
  (szT Try.prog 59 = some 1) ∧
  (aggT Try.prog 59 = some false) ∧
  (kindT Try.prog 59 = .int .u64) ∧
  (zeroT Try.prog 59 = some [.v (.int .u64 0)]) ∧
  (szT Try.prog 60 = some 16) ∧
  (aggT Try.prog 60 = some true) ∧
  (kindT Try.prog 60 = .array) ∧
  (zeroT Try.prog 60 = some [.arr 16 .u64 (List.replicate 16 0)]) ∧
  (intsT Try.prog 60 = true) ∧
  (elemT Try.prog 60 = .arr 16 1 false false) ∧
  (eqArrT Try.prog 60 = some (16, .u64)) ∧
  (sizedT Try.prog 60 = true) ∧
  (∀ i, placeA Try.prog 60 i = some (i * 1, 1, false)) ∧
  (szT Try.prog 65 = some 3) ∧
  (aggT Try.prog 65 = some true) ∧
  (kindT Try.prog 65 = .struct) ∧
  (zeroT Try.prog 65 = some [.v (.int .i64 0), .v (.int .i64 0), .v (.int .i64 0)]) ∧
  (sizedT Try.prog 65 = true) ∧
  (intsT Try.prog 65 = false) ∧
  (placeA Try.prog 65 0 = some (0, 1, false)) ∧
  (fieldT Try.prog 65 0 = some (0, 1, false, false)) ∧
  (placeA Try.prog 65 1 = some (1, 1, false)) ∧
  (fieldT Try.prog 65 1 = some (1, 1, false, false)) ∧
  (placeA Try.prog 65 2 = some (2, 1, false)) ∧
  (fieldT Try.prog 65 2 = some (2, 1, false, false)) ∧
  (szT Try.prog 66 = some 3) ∧
  (aggT Try.prog 66 = some true) ∧
  (kindT Try.prog 66 = .struct) ∧
  (zeroT Try.prog 66 = some [.v (.int .i64 0), .v (.int .i64 0), .v (.int .i64 0)]) ∧
  (sizedT Try.prog 66 = true) ∧
  (intsT Try.prog 66 = false) ∧
  (placeA Try.prog 66 0 = some (0, 1, false)) ∧
  (fieldT Try.prog 66 0 = some (0, 1, false, false)) ∧
  (placeA Try.prog 66 1 = some (1, 1, false)) ∧
  (fieldT Try.prog 66 1 = some (1, 1, false, false)) ∧
  (placeA Try.prog 66 2 = some (2, 1, false)) ∧
  (fieldT Try.prog 66 2 = some (2, 1, false, false)) ∧
  (szT Try.prog 67 = some 4) ∧
  (aggT Try.prog 67 = some true) ∧
  (kindT Try.prog 67 = .struct) ∧
  (zeroT Try.prog 67 = some [.v (.slice none 0 0), .v (.slice none 0 0), .v (.slice none 0 0), .v (.slice none 0 0)]) ∧
  (sizedT Try.prog 67 = true) ∧
  (intsT Try.prog 67 = false) ∧
  (placeA Try.prog 67 0 = some (0, 1, false)) ∧
  (fieldT Try.prog 67 0 = some (0, 1, false, false)) ∧
  (placeA Try.prog 67 1 = some (1, 1, false)) ∧
  (fieldT Try.prog 67 1 = some (1, 1, false, false)) ∧
  (placeA Try.prog 67 2 = some (2, 1, false)) ∧
  (fieldT Try.prog 67 2 = some (2, 1, false, false)) ∧
  (placeA Try.prog 67 3 = some (3, 1, false)) ∧
  (fieldT Try.prog 67 3 = some (3, 1, false, false)) ∧
  (szT Try.prog 68 = some 4) ∧
  (aggT Try.prog 68 = some true) ∧
  (kindT Try.prog 68 = .struct) ∧
  (zeroT Try.prog 68 = some [.v (.slice none 0 0), .v (.slice none 0 0), .v (.slice none 0 0), .v (.slice none 0 0)]) ∧
  (sizedT Try.prog 68 = true) ∧
  (intsT Try.prog 68 = false) ∧
  (placeA Try.prog 68 0 = some (0, 1, false)) ∧
  (fieldT Try.prog 68 0 = some (0, 1, false, false)) ∧
  (placeA Try.prog 68 1 = some (1, 1, false)) ∧
  (fieldT Try.prog 68 1 = some (1, 1, false, false)) ∧
  (placeA Try.prog 68 2 = some (2, 1, false)) ∧
  (fieldT Try.prog 68 2 = some (2, 1, false, false)) ∧
  (placeA Try.prog 68 3 = some (3, 1, false)) ∧
  (fieldT Try.prog 68 3 = some (3, 1, false, false)) ∧
  (szT Try.prog 74 = some 16) ∧
  (aggT Try.prog 74 = some true) ∧
  (kindT Try.prog 74 = .array) ∧
  (zeroT Try.prog 74 = some [.arr 16 .u64 (List.replicate 16 0)]) ∧
  (intsT Try.prog 74 = true) ∧
  (elemT Try.prog 74 = .arr 16 1 false false) ∧
  (eqArrT Try.prog 74 = some (16, .u64)) ∧
  (sizedT Try.prog 74 = true) ∧
  (∀ i, placeA Try.prog 74 i = some (i * 1, 1, false)) ∧
  (szT Try.prog 75 = some 1) ∧
  (aggT Try.prog 75 = some false) ∧
  (kindT Try.prog 75 = .slice false) ∧
  (zeroT Try.prog 75 = some [.v (.slice none 0 0)]) ∧
  (elemT Try.prog 75 = .sl 1 false false) ∧
  (elemSize Try.prog 75 = some 1) ∧
  (elemBytes Try.prog 75 = some 8) ∧
  (listB Try.prog 75 = some 8) ∧
  (elemZ Try.prog 75 = some (.u64, 0)) ∧
  (intElem Try.prog 75 = some .u64) ∧
  (szT Try.prog 80 = some 11) ∧
  (aggT Try.prog 80 = some true) ∧
  (kindT Try.prog 80 = .struct) ∧
  (zeroT Try.prog 80 = some [.arr 8 .u64 (List.replicate 8 0), .v (.int .i64 0), .v (.slice none 0 0), .v (.int .u64 0)]) ∧
  (sizedT Try.prog 80 = true) ∧
  (intsT Try.prog 80 = false) ∧
  (placeA Try.prog 80 0 = some (0, 8, true)) ∧
  (fieldT Try.prog 80 0 = some (0, 8, true, true)) ∧
  (placeA Try.prog 80 1 = some (8, 1, false)) ∧
  (fieldT Try.prog 80 1 = some (8, 1, false, false)) ∧
  (placeA Try.prog 80 2 = some (9, 1, false)) ∧
  (fieldT Try.prog 80 2 = some (9, 1, false, false)) ∧
  (placeA Try.prog 80 3 = some (10, 1, false)) ∧
  (fieldT Try.prog 80 3 = some (10, 1, false, false)) ∧
  (szT Try.prog 81 = some 11) ∧
  (aggT Try.prog 81 = some true) ∧
  (kindT Try.prog 81 = .struct) ∧
  (zeroT Try.prog 81 = some [.arr 8 .u64 (List.replicate 8 0), .v (.int .i64 0), .v (.slice none 0 0), .v (.int .u64 0)]) ∧
  (sizedT Try.prog 81 = true) ∧
  (intsT Try.prog 81 = false) ∧
  (placeA Try.prog 81 0 = some (0, 8, true)) ∧
  (fieldT Try.prog 81 0 = some (0, 8, true, true)) ∧
  (placeA Try.prog 81 1 = some (8, 1, false)) ∧
  (fieldT Try.prog 81 1 = some (8, 1, false, false)) ∧
  (placeA Try.prog 81 2 = some (9, 1, false)) ∧
  (fieldT Try.prog 81 2 = some (9, 1, false, false)) ∧
  (placeA Try.prog 81 3 = some (10, 1, false)) ∧
  (fieldT Try.prog 81 3 = some (10, 1, false, false)) ∧
  (szT Try.prog 87 = some 1) ∧
  (aggT Try.prog 87 = some false) ∧
  (kindT Try.prog 87 = .pointer) ∧
  (zeroT Try.prog 87 = some [.v (.pointer none)]) ∧
  (szT Try.prog 88 = some 16) ∧
  (aggT Try.prog 88 = some true) ∧
  (kindT Try.prog 88 = .array) ∧
  (zeroT Try.prog 88 = some [.v (.pointer none), .v (.pointer none), .v (.pointer none), .v (.pointer none), .v (.pointer none), .v (.pointer none), .v (.pointer none), .v (.pointer none), .v (.pointer none), .v (.pointer none), .v (.pointer none), .v (.pointer none), .v (.pointer none), .v (.pointer none), .v (.pointer none), .v (.pointer none)]) ∧
  (intsT Try.prog 88 = false) ∧
  (elemT Try.prog 88 = .arr 16 1 false false) ∧
  (sizedT Try.prog 88 = true) ∧
  (∀ i, placeA Try.prog 88 i = some (i * 1, 1, false)) ∧
  (szT Try.prog 90 = some 1) ∧
  (aggT Try.prog 90 = some false) ∧
  (kindT Try.prog 90 = .pointer) ∧
  (zeroT Try.prog 90 = some [.v (.pointer none)]) ∧
  (elemT Try.prog 90 = .parr 16 1) ∧
  (szT Try.prog 92 = some 1) ∧
  (aggT Try.prog 92 = some false) ∧
  (kindT Try.prog 92 = .pointer) ∧
  (zeroT Try.prog 92 = some [.v (.pointer none)]) ∧
  (szT Try.prog 95 = some 4) ∧
  (aggT Try.prog 95 = some true) ∧
  (kindT Try.prog 95 = .struct) ∧
  (zeroT Try.prog 95 = some [.v (.int .i64 0), .v (.int .i64 0), .v (.int .i64 0), .v (.int .i64 0)]) ∧
  (sizedT Try.prog 95 = true) ∧
  (intsT Try.prog 95 = false) ∧
  (placeA Try.prog 95 0 = some (0, 1, false)) ∧
  (fieldT Try.prog 95 0 = some (0, 1, false, false)) ∧
  (placeA Try.prog 95 1 = some (1, 1, false)) ∧
  (fieldT Try.prog 95 1 = some (1, 1, false, false)) ∧
  (placeA Try.prog 95 2 = some (2, 1, false)) ∧
  (fieldT Try.prog 95 2 = some (2, 1, false, false)) ∧
  (placeA Try.prog 95 3 = some (3, 1, false)) ∧
  (fieldT Try.prog 95 3 = some (3, 1, false, false)) ∧
  (szT Try.prog 96 = some 4) ∧
  (aggT Try.prog 96 = some true) ∧
  (kindT Try.prog 96 = .struct) ∧
  (zeroT Try.prog 96 = some [.v (.int .i64 0), .v (.int .i64 0), .v (.int .i64 0), .v (.int .i64 0)]) ∧
  (sizedT Try.prog 96 = true) ∧
  (intsT Try.prog 96 = false) ∧
  (placeA Try.prog 96 0 = some (0, 1, false)) ∧
  (fieldT Try.prog 96 0 = some (0, 1, false, false)) ∧
  (placeA Try.prog 96 1 = some (1, 1, false)) ∧
  (fieldT Try.prog 96 1 = some (1, 1, false, false)) ∧
  (placeA Try.prog 96 2 = some (2, 1, false)) ∧
  (fieldT Try.prog 96 2 = some (2, 1, false, false)) ∧
  (placeA Try.prog 96 3 = some (3, 1, false)) ∧
  (fieldT Try.prog 96 3 = some (3, 1, false, false)) ∧
  (szT Try.prog 97 = some 1) ∧
  (aggT Try.prog 97 = some false) ∧
  (kindT Try.prog 97 = .slice false) ∧
  (zeroT Try.prog 97 = some [.v (.slice none 0 0)]) ∧
  (elemT Try.prog 97 = .sl 1 false false) ∧
  (elemSize Try.prog 97 = some 1) ∧
  (elemBytes Try.prog 97 = some 24) ∧
  (listB Try.prog 97 = some 24) ∧
  (intElem Try.prog 97 = none) ∧
  (szT Try.prog 98 = some 5) ∧
  (aggT Try.prog 98 = some true) ∧
  (kindT Try.prog 98 = .struct) ∧
  (zeroT Try.prog 98 = some [.v (.int .i64 0), .v (.int .i64 0), .v (.int .i64 0), .v (.slice none 0 0), .v (.int .i64 0)]) ∧
  (sizedT Try.prog 98 = true) ∧
  (intsT Try.prog 98 = false) ∧
  (placeA Try.prog 98 0 = some (0, 3, true)) ∧
  (fieldT Try.prog 98 0 = some (0, 3, true, false)) ∧
  (placeA Try.prog 98 1 = some (3, 1, false)) ∧
  (fieldT Try.prog 98 1 = some (3, 1, false, false)) ∧
  (placeA Try.prog 98 2 = some (4, 1, false)) ∧
  (fieldT Try.prog 98 2 = some (4, 1, false, false)) ∧
  (szT Try.prog 99 = some 5) ∧
  (aggT Try.prog 99 = some true) ∧
  (kindT Try.prog 99 = .struct) ∧
  (zeroT Try.prog 99 = some [.v (.int .i64 0), .v (.int .i64 0), .v (.int .i64 0), .v (.slice none 0 0), .v (.int .i64 0)]) ∧
  (sizedT Try.prog 99 = true) ∧
  (intsT Try.prog 99 = false) ∧
  (placeA Try.prog 99 0 = some (0, 3, true)) ∧
  (fieldT Try.prog 99 0 = some (0, 3, true, false)) ∧
  (placeA Try.prog 99 1 = some (3, 1, false)) ∧
  (fieldT Try.prog 99 1 = some (3, 1, false, false)) ∧
  (placeA Try.prog 99 2 = some (4, 1, false)) ∧
  (fieldT Try.prog 99 2 = some (4, 1, false, false)) ∧
  (szT Try.prog 100 = some 1) ∧
  (aggT Try.prog 100 = some false) ∧
  (kindT Try.prog 100 = .slice false) ∧
  (zeroT Try.prog 100 = some [.v (.slice none 0 0)]) ∧
  (elemT Try.prog 100 = .sl 128 true true) ∧
  (elemSize Try.prog 100 = some 128) ∧
  (elemBytes Try.prog 100 = some 1024) ∧
  (intElem Try.prog 100 = none) ∧
  (szT Try.prog 101 = some 1) ∧
  (aggT Try.prog 101 = some false) ∧
  (kindT Try.prog 101 = .pointer) ∧
  (zeroT Try.prog 101 = some [.v (.pointer none)]) ∧
  (szT Try.prog 102 = some 9) ∧
  (aggT Try.prog 102 = some true) ∧
  (kindT Try.prog 102 = .struct) ∧
  (zeroT Try.prog 102 = some [.v (.int .i64 0), .v (.int .i64 0), .v (.int .i64 0), .v (.int .i64 0), .v (.slice none 0 0), .v (.int .i64 0), .v (.int .i64 0), .v (.int .i64 0), .v (.int .i64 0)]) ∧
  (sizedT Try.prog 102 = true) ∧
  (intsT Try.prog 102 = false) ∧
  (placeA Try.prog 102 0 = some (0, 3, true)) ∧
  (fieldT Try.prog 102 0 = some (0, 3, true, false)) ∧
  (placeA Try.prog 102 1 = some (3, 1, false)) ∧
  (fieldT Try.prog 102 1 = some (3, 1, false, false)) ∧
  (placeA Try.prog 102 2 = some (4, 1, false)) ∧
  (fieldT Try.prog 102 2 = some (4, 1, false, false)) ∧
  (placeA Try.prog 102 3 = some (5, 1, false)) ∧
  (fieldT Try.prog 102 3 = some (5, 1, false, false)) ∧
  (placeA Try.prog 102 4 = some (6, 1, false)) ∧
  (fieldT Try.prog 102 4 = some (6, 1, false, false)) ∧
  (placeA Try.prog 102 5 = some (7, 1, false)) ∧
  (fieldT Try.prog 102 5 = some (7, 1, false, false)) ∧
  (placeA Try.prog 102 6 = some (8, 1, false)) ∧
  (fieldT Try.prog 102 6 = some (8, 1, false, false)) ∧
  (szT Try.prog 103 = some 9) ∧
  (aggT Try.prog 103 = some true) ∧
  (kindT Try.prog 103 = .struct) ∧
  (zeroT Try.prog 103 = some [.v (.int .i64 0), .v (.int .i64 0), .v (.int .i64 0), .v (.int .i64 0), .v (.slice none 0 0), .v (.int .i64 0), .v (.int .i64 0), .v (.int .i64 0), .v (.int .i64 0)]) ∧
  (sizedT Try.prog 103 = true) ∧
  (intsT Try.prog 103 = false) ∧
  (placeA Try.prog 103 0 = some (0, 3, true)) ∧
  (fieldT Try.prog 103 0 = some (0, 3, true, false)) ∧
  (placeA Try.prog 103 1 = some (3, 1, false)) ∧
  (fieldT Try.prog 103 1 = some (3, 1, false, false)) ∧
  (placeA Try.prog 103 2 = some (4, 1, false)) ∧
  (fieldT Try.prog 103 2 = some (4, 1, false, false)) ∧
  (placeA Try.prog 103 3 = some (5, 1, false)) ∧
  (fieldT Try.prog 103 3 = some (5, 1, false, false)) ∧
  (placeA Try.prog 103 4 = some (6, 1, false)) ∧
  (fieldT Try.prog 103 4 = some (6, 1, false, false)) ∧
  (placeA Try.prog 103 5 = some (7, 1, false)) ∧
  (fieldT Try.prog 103 5 = some (7, 1, false, false)) ∧
  (placeA Try.prog 103 6 = some (8, 1, false)) ∧
  (fieldT Try.prog 103 6 = some (8, 1, false, false)) ∧
  (szT Try.prog 106 = some 6) ∧
  (aggT Try.prog 106 = some true) ∧
  (kindT Try.prog 106 = .array) ∧
  (zeroT Try.prog 106 = some [.arr 6 .i64 (List.replicate 6 0)]) ∧
  (intsT Try.prog 106 = true) ∧
  (elemT Try.prog 106 = .arr 6 1 false false) ∧
  (eqArrT Try.prog 106 = some (6, .i64)) ∧
  (sizedT Try.prog 106 = true) ∧
  (∀ i, placeA Try.prog 106 i = some (i * 1, 1, false)) ∧
  (szT Try.prog 107 = some 4) ∧
  (aggT Try.prog 107 = some true) ∧
  (kindT Try.prog 107 = .array) ∧
  (zeroT Try.prog 107 = some [.v (.slice none 0 0), .v (.slice none 0 0), .v (.slice none 0 0), .v (.slice none 0 0)]) ∧
  (intsT Try.prog 107 = false) ∧
  (elemT Try.prog 107 = .arr 4 1 false false) ∧
  (sizedT Try.prog 107 = true) ∧
  (∀ i, placeA Try.prog 107 i = some (i * 1, 1, false)) ∧
  (szT Try.prog 108 = some 1) ∧
  (aggT Try.prog 108 = some false) ∧
  (kindT Try.prog 108 = .slice false) ∧
  (zeroT Try.prog 108 = some [.v (.slice none 0 0)]) ∧
  (elemT Try.prog 108 = .sl 1 false false) ∧
  (elemSize Try.prog 108 = some 1) ∧
  (elemBytes Try.prog 108 = some 8) ∧
  (listB Try.prog 108 = some 8) ∧
  (elemZ Try.prog 108 = some (.i64, 0)) ∧
  (intElem Try.prog 108 = some .i64) ∧
  (szT Try.prog 109 = some 1) ∧
  (aggT Try.prog 109 = some false) ∧
  (kindT Try.prog 109 = .pointer) ∧
  (zeroT Try.prog 109 = some [.v (.pointer none)]) ∧
  (elemT Try.prog 109 = .parr 16 1) ∧
  (∀ c, elemZero Try.prog 22 c = some [.arr c .u8 (List.replicate c 0)]) ∧
  (∀ c, elemZero Try.prog 37 c = some [.lst 1 (List.replicate c (.v (.slice none 0 0)))]) ∧
  (∀ c, elemZero Try.prog 75 c = some [.arr c .u64 (List.replicate c 0)]) ∧
  (∀ c, elemZero Try.prog 97 c = some [.lst 1 (List.replicate c (.v (.slice none 0 0)))]) ∧
  (∀ c, elemZero Try.prog 100 c = some [.arr (c * 128) .u64 (List.replicate c (List.replicate 128 0)).flatten]) ∧
  (∀ c, elemZero Try.prog 108 c = some [.arr c .i64 (List.replicate c 0)]) :=
  ⟨tb0, tb1, tb2, tb3, tb4, tb5, tb6, tb7, tb8, tb9, tb10, tb11, tb12, tb13, tb14, tb15, tb16, tb17, tb18, tb19, tb20, tb21, tb22, tb23, tb24, tb25, tb26, tb27, tb28, tb29, tb30, tb31, tb32, tb33, tb34, tb35, tb36, tb37, tb38, tb39, tb40, tb41, tb42, tb43, tb44, tb45, tb46, tb47, tb48, tb49, tb50, tb51, tb52, tb53, tb54, tb55, tb56, tb57, tb58, tb59, tb60, tb61, tb62, tb63, tb64, tb65, tb66, tb67, tb68, tb69, tb70, tb71, tb72, tb73, tb74, tb75, tb76, tb77, tb78, tb79, tb80, tb81, tb82, tb83, tb84, tb85, tb86, tb87, tb88, tb89, tb90, tb91, tb92, tb93, tb94, tb95, tb96, tb97, tb98, tb99, tb100, tb101, tb102, tb103, tb104, tb105, tb106, tb107, tb108, tb109, tb110, tb111, tb112, tb113, tb114, tb115, tb116, tb117, tb118, tb119, tb120, tb121, tb122, tb123, tb124, tb125, tb126, tb127, tb128, tb129, tb130, tb131, tb132, tb133, tb134, tb135, tb136, tb137, tb138, tb139, tb140, tb141, tb142, tb143, tb144, tb145, tb146, tb147, tb148, tb149, tb150, tb151, tb152, tb153, tb154, tb155, tb156, tb157, tb158, tb159, tb160, tb161, tb162, tb163, tb164, tb165, tb166, tb167, tb168, tb169, tb170, tb171, tb172, tb173, tb174, tb175, tb176, tb177, tb178, tb179, tb180, tb181, tb182, tb183, tb184, tb185, tb186, tb187, tb188, tb189, tb190, tb191, tb192, tb193, tb194, tb195, tb196, tb197, tb198, tb199, tb200, tb201, tb202, tb203, tb204, tb205, tb206, tb207, tb208, tb209, tb210, tb211, tb212, tb213, tb214, tb215, tb216, tb217, tb218, tb219, tb220, tb221, tb222, tb223, tb224, tb225, tb226, tb227, tb228, tb229, tb230, tb231, tb232, tb233, tb234, tb235, tb236, tb237, tb238, tb239, tb240, tb241, tb242, tb243, tb244, tb245, tb246, tb247, tb248, tb249, tb250, tb251, tb252, tb253, tb254, tb255, tb256, tb257, tb258, tb259, tb260, tb261, tb262, tb263, tb264, tb265, tb266, tb267, tb268, tb269, tb270, tb271, tb272, tb273, tb274, tb275, tb276, tb277, tb278, tb279, tb280, tb281, tb282, tb283, tb284, tb285, tb286, tb287, tb288, tb289, tb290, tb291, tb292, tb293, tb294, tb295, tb296, tb297, tb298, tb299, tb300, tb301, tb302, tb303, tb304, tb305, tb306, tb307, tb308, tb309, tb310, tb311, tb312, tb313, tb314, tb315, tb316, tb317, tb318, tb319, tb320, tb321, tb322, tb323, tb324, tb325, tb326, tb327, tb328, tb329, tb330, tb331, tb332, tb333, tb334, tb335, tb336, tb337, tb338, tb339, tb340, tb341, tb342, tb343, tb344, tb345, tb346, tb347, tb348, tb349, tb350, tb351, tb352, tb353, tb354, tb355, tb356, tb357, tb358, tb359, tb360, tb361, tb362, tb363, tb364, tb365, tz22, tz37, tz75, tz97, tz100, tz108⟩
end Go.Proofs.Ytfnfmbikooeiaaa

namespace Go.Proofs.Ytfnfmbikooeiaaa
open Go.Ax
noncomputable def c0 (k : Nat) : Cfg := ⟨Try.prog, k, fun _ => none, [], fun _ => none, none, []⟩
theorem c0_odd (k : Nat) : (c0 k).odd = [] := rfl
theorem c0_ro (k : Nat) : (c0 k).ro = [] := rfl
theorem c0_P (k : Nat) : (c0 k).P = Try.prog := rfl
theorem good0 (k : Nat) : (c0 k).Good := ⟨by kernel_rfl, fun f F args v h => by simp [c0] at h, fun f N h args out hN => by simp [c0] at hN⟩

theorem rot_spec (x n : Int) : ACall Try.prog 80 [.v (.int .u64 x), .v (.int .i64 n)] [] fun v _ => v = .v (.int .u64 (rotL x n)) := by
  refine acall_run (good0 0) Try.func80 rfl ⟨by kernel_rfl, by show 2 ≤ _; decide, by kernel_rfl, by kernel_rfl⟩ rfl ?_
  have hr : Try.f80.results.toList = [.tmp 4] := rfl
  simp only [c0_P, c0_odd, c0_ro, Nat.reduceBEq, condR_bool, wantR_bool, reduceIte, Nat.reduceEqDiff, reduceCtorEq, ne_eq, if_true, if_false, exA, tabs, exB, exD, hr, u64_nonneg]
  rfl
def F80 : List AV → Option AV
  | [.v (.int .u64 x), .v (.int .i64 n)] => some (.v (.int .u64 (rotL x n)))
  | _ => none
theorem F80_eq (x n : Int) : F80 [.v (.int .u64 x), .v (.int .i64 n)] = some (.v (.int .u64 (rotL x n))) := rfl
noncomputable def p1 : FuncId → Option (List AV → Option AV) := addPure (fun _ => none) 80 F80
noncomputable def c1 (k : Nat) : Cfg := ⟨Try.prog, k, p1, [], fun _ => none, none, []⟩
theorem c1_odd (k : Nat) : (c1 k).odd = [] := rfl
theorem c1_ro (k : Nat) : (c1 k).ro = [] := rfl
theorem c1_P (k : Nat) : (c1 k).P = Try.prog := rfl
theorem c1_80 (k : Nat) : (c1 k).pure 80 = some F80 := rfl
theorem good1 (k : Nat) : (c1 k).Good := by
  refine Cfg.Good.add (good0 k) ?_ k
  intro args v hF h κ hκ
  unfold F80 at hF
  split at hF
  · cases hF
    exact pure_call (rot_spec _ _) (fun g => rfl) (fun g => rfl) h κ hκ
  · cases hF

theorem right_spec (x n : Int) : ACall Try.prog 70 [.v (.int .u64 x), .v (.int .i64 n)] [] fun v _ => v = .v (.int .u64 (rotL x (IntKind.i64.wrap (0 - n)))) := by
  refine acall_run (good1 0) Try.func70 rfl ⟨by kernel_rfl, by show 2 ≤ _; decide, by kernel_rfl, by kernel_rfl⟩ rfl ?_
  have hr : Try.f70.results.toList = [.tmp 4] := rfl
  simp only [c1_P, c1_odd, c1_ro, c1_80, F80_eq, Nat.reduceBEq, condR_bool, wantR_bool, reduceIte, Nat.reduceEqDiff, reduceCtorEq, ne_eq, if_true, if_false, exA, tabs, exB, exD, hr]
theorem turn_spec (x n : Int) (h : 0 ≤ n ∧ 0 ≤ IntKind.i64.wrap (64 - n)) : ACall Try.prog 71 [.v (.int .i64 n), .v (.int .u64 x)] [] fun v _ => v = .v (.int .u64 (rotR n x)) := by
  refine acall_run (good1 0) Try.func71 rfl ⟨by kernel_rfl, by show 2 ≤ _; decide, by kernel_rfl, by kernel_rfl⟩ rfl ?_
  have hr : Try.f71.results.toList = [.tmp 4] := rfl
  simp only [c1_P, c1_odd, c1_ro, Nat.reduceBEq, condR_bool, wantR_bool, reduceIte, Nat.reduceEqDiff, reduceCtorEq, ne_eq, if_true, if_false, exA, tabs, exB, exD, hr, h]
  rfl
theorem digit_spec (x : Int) : ACall Try.prog 53 [.v (.int .u8 x)] [] fun v _ => v = .v (.int .i64 (digitI x)) := by
  refine acall_run (good0 0) Try.func53 rfl ⟨by kernel_rfl, by show 1 ≤ _; decide, by kernel_rfl, by kernel_rfl⟩ rfl ?_
  have hr : Try.f53.results.toList = [.tmp 2] := rfl
  simp only [c0_P, c0_odd, c0_ro, Nat.reduceBEq, condR_bool, wantR_bool, reduceIte, Nat.reduceEqDiff, reduceCtorEq, ne_eq, if_true, if_false, exA, tabs, exB, exD, hr]
  unfold digitI
  split <;> rfl
theorem first_spec : ACall Try.prog 25 [] [] fun v _ => v = .arr 8 .u64 firstL := by
  refine acall_run (good0 0) Try.func25 rfl ⟨by kernel_rfl, by show 0 ≤ _; decide, by kernel_rfl, by kernel_rfl⟩ rfl ?_
  have hr : Try.f25.results.toList = [.cell 0 30] := rfl
  simp only [c0_P, c0_odd, c0_ro, Nat.reduceBEq, condR_bool, wantR_bool, reduceIte, Nat.reduceEqDiff, reduceCtorEq, ne_eq, if_true, if_false, exA, tabs, exB, exD, hr, buildA, rowOr, rowSetAt, rowAgg, mkAgg, AV.isAggV, AV.parts, AV.one, AV.solid, headSize, indexAddrA, indexA, fieldAddrA, fieldA, sliceA, boundsA, bndA, lenA, arrayAtA, rowOf, makeSliceA, intsOf, copyA, Nat.reduceAdd, Nat.reduceSub, Nat.reduceMul, Nat.reduceLeDiff, Nat.reduceLT, Nat.reduceGT, Int.reduceToNat, Int.reduceLE, Int.reduceLT, Int.reduceEq, Int.reduceNe, Int.reduceAdd, Int.reduceSub, Int.reduceMul, Int.reduceNeg, ite_true, ite_false, dite_true]
  rfl
theorem rfirst_spec : ACall Try.prog 26 [] [] fun v _ => v = .arr 8 .u64 firstL := by
  refine acall_run (good0 0) Try.func26 rfl ⟨by kernel_rfl, by show 0 ≤ _; decide, by kernel_rfl, by kernel_rfl⟩ rfl ?_
  have hr : Try.f26.results.toList = [.cell 0 30] := rfl
  simp only [c0_P, c0_odd, c0_ro, Nat.reduceBEq, condR_bool, wantR_bool, reduceIte, Nat.reduceEqDiff, reduceCtorEq, ne_eq, if_true, if_false, exA, tabs, exB, exD, hr, buildA, rowOr, rowSetAt, rowAgg, mkAgg, AV.isAggV, AV.parts, AV.one, AV.solid, headSize, indexAddrA, indexA, fieldAddrA, fieldA, sliceA, boundsA, bndA, lenA, arrayAtA, rowOf, makeSliceA, intsOf, copyA, Nat.reduceAdd, Nat.reduceSub, Nat.reduceMul, Nat.reduceLeDiff, Nat.reduceLT, Nat.reduceGT, Int.reduceToNat, Int.reduceLE, Int.reduceLT, Int.reduceEq, Int.reduceNe, Int.reduceAdd, Int.reduceSub, Int.reduceMul, Int.reduceNeg, ite_true, ite_false, dite_true]
  rfl
theorem order_spec (r k : Nat) (h1 : r < 10) (h2 : k < 16) :
    ACall Try.prog 55 [.v (.int .i64 r), .v (.int .i64 k)] [] fun v _ => v = .v (.int .i64 (sigma.getD (16 * r + k) 0 : Nat)) := by
  refine acall_run (good0 0) Try.func55 rfl ⟨by kernel_rfl, by show 2 ≤ _; decide, by kernel_rfl, by kernel_rfl⟩ rfl ?_
  have hr : Try.f55.results.toList = [.tmp 4] := rfl
  have hw : IntKind.i64.wrap (IntKind.i64.wrap (16 * (r : Int)) + (k : Int)) = ((16 * r + k : Nat) : Int) := by
    rw [i64_id (16 * (r : Int)) (by omega), i64_id _ (by omega)]; omega
  simp only [c0_P, c0_odd, c0_ro, Nat.reduceBEq, condR_bool, wantR_bool, reduceIte, Nat.reduceEqDiff, reduceCtorEq, ne_eq, if_true, if_false, exA, tabs, exB, exD, hr, buildA, rowOr, rowSetAt, rowAgg, mkAgg, AV.isAggV, AV.parts, AV.one, AV.solid, headSize, indexAddrA, indexA, fieldAddrA, fieldA, sliceA, boundsA, bndA, lenA, arrayAtA, rowOf, makeSliceA, intsOf, copyA, Nat.reduceAdd, Nat.reduceSub, Nat.reduceMul, Nat.reduceLeDiff, Nat.reduceLT, Nat.reduceGT, Int.reduceToNat, Int.reduceLE, Int.reduceLT, Int.reduceEq, Int.reduceNe, Int.reduceAdd, Int.reduceSub, Int.reduceMul, Int.reduceNeg, ite_true, ite_false, dite_true, hw, Int.toNat_natCast, AV.v.injEq, Value.int.injEq]
  obtain ⟨i, hi⟩ : ∃ i : Fin 160, i.val = 16 * r + k := ⟨⟨16 * r + k, by omega⟩, rfl⟩
  rw [← hi]
  clear hi hw h1 h2
  revert i
  decide
def F70 : List AV → Option AV
  | [.v (.int .u64 x), .v (.int .i64 n)] => some (.v (.int .u64 (rotL x (IntKind.i64.wrap (0 - n)))))
  | _ => none
theorem F70_eq (x n : Int) : F70 [.v (.int .u64 x), .v (.int .i64 n)] = some (.v (.int .u64 (rotL x (IntKind.i64.wrap (0 - n))))) := rfl
def F71 : List AV → Option AV
  | [.v (.int .i64 n), .v (.int .u64 x)] => oguard (0 ≤ n ∧ 0 ≤ IntKind.i64.wrap (64 - n)) (some (.v (.int .u64 (rotR n x))))
  | _ => none
theorem F71_32 (x : Int) : F71 [.v (.int .i64 32), .v (.int .u64 x)] = some (.v (.int .u64 (rotR 32 x))) := rfl
theorem F71_24 (x : Int) : F71 [.v (.int .i64 24), .v (.int .u64 x)] = some (.v (.int .u64 (rotR 24 x))) := rfl
theorem F71_16 (x : Int) : F71 [.v (.int .i64 16), .v (.int .u64 x)] = some (.v (.int .u64 (rotR 16 x))) := rfl
theorem F71_63 (x : Int) : F71 [.v (.int .i64 63), .v (.int .u64 x)] = some (.v (.int .u64 (rotR 63 x))) := rfl
def F53 : List AV → Option AV
  | [.v (.int .u8 x)] => some (.v (.int .i64 (digitI x)))
  | _ => none
theorem F53_eq (x : Int) : F53 [.v (.int .u8 x)] = some (.v (.int .i64 (digitI x))) := rfl
def F55 : List AV → Option AV
  | [.v (.int .i64 r), .v (.int .i64 k)] => oguard (0 ≤ r ∧ r < 10 ∧ 0 ≤ k ∧ k < 16) (some (.v (.int .i64 (sigma.getD (16 * r.toNat + k.toNat) 0 : Nat))))
  | _ => none
theorem F55_eq (r k : Int) : F55 [.v (.int .i64 r), .v (.int .i64 k)] = oguard (0 ≤ r ∧ r < 10 ∧ 0 ≤ k ∧ k < 16) (some (.v (.int .i64 (sigma.getD (16 * r.toNat + k.toNat) 0 : Nat)))) := rfl
def F25 : List AV → Option AV
  | [] => some (.arr 8 .u64 firstL)
  | _ => none
theorem F25_eq : F25 [] = some (.arr 8 .u64 firstL) := rfl
noncomputable def p2 : FuncId → Option (List AV → Option AV) := addPure (addPure (addPure (addPure (addPure (addPure p1 70 F70) 71 F71) 53 F53) 55 F55) 25 F25) 26 F25
noncomputable def c2 (k : Nat) : Cfg := ⟨Try.prog, k, p2, [], fun _ => none, none, []⟩
theorem c2_odd (k : Nat) : (c2 k).odd = [] := rfl
theorem c2_ro (k : Nat) : (c2 k).ro = [] := rfl
theorem c2_P (k : Nat) : (c2 k).P = Try.prog := rfl
theorem c2_70 (k : Nat) : (c2 k).pure 70 = some F70 := rfl
theorem c2_71 (k : Nat) : (c2 k).pure 71 = some F71 := rfl
theorem c2_53 (k : Nat) : (c2 k).pure 53 = some F53 := rfl
theorem c2_55 (k : Nat) : (c2 k).pure 55 = some F55 := rfl
theorem c2_25 (k : Nat) : (c2 k).pure 25 = some F25 := rfl
theorem c2_26 (k : Nat) : (c2 k).pure 26 = some F25 := rfl
theorem c2_54 (k : Nat) : (c2 k).pure 54 = none := rfl
theorem c2_56 (k : Nat) : (c2 k).pure 56 = none := rfl
theorem good2 (k : Nat) : (c2 k).Good := by
  refine Cfg.Good.add (Cfg.Good.add (Cfg.Good.add (Cfg.Good.add (Cfg.Good.add (Cfg.Good.add (good1 k) ?_ k) ?_ k) ?_ k) ?_ k) ?_ k) ?_ k
  · intro args v hF h κ hκ
    unfold F70 at hF
    split at hF
    · cases hF; exact pure_call (right_spec _ _) (fun g => rfl) (fun g => rfl) h κ hκ
    · cases hF
  · intro args v hF h κ hκ
    unfold F71 at hF
    split at hF
    · obtain ⟨h1, h2⟩ := oguard_some hF
      cases h2; exact pure_call (turn_spec _ _ h1) (fun g => rfl) (fun g => rfl) h κ hκ
    · cases hF
  · intro args v hF h κ hκ
    unfold F53 at hF
    split at hF
    · cases hF; exact pure_call (digit_spec _) (fun g => rfl) (fun g => rfl) h κ hκ
    · cases hF
  · intro args v hF h κ hκ
    unfold F55 at hF
    split at hF
    · rename_i r k
      obtain ⟨⟨h1, h2, h3, h4⟩, h5⟩ := oguard_some hF
      cases h5
      obtain ⟨r, rfl⟩ := Int.eq_ofNat_of_zero_le h1
      obtain ⟨k, rfl⟩ := Int.eq_ofNat_of_zero_le h3
      exact pure_call (order_spec r k (by omega) (by omega)) (fun g => rfl) (fun g => rfl) h κ hκ
    · cases hF
  · intro args v hF h κ hκ
    unfold F25 at hF
    split at hF
    · cases hF; exact pure_call first_spec (fun g => rfl) (fun g => rfl) h κ hκ
    · cases hF
  · intro args v hF h κ hκ
    unfold F25 at hF
    split at hF
    · cases hF; exact pure_call rfirst_spec (fun g => rfl) (fun g => rfl) h κ hκ
    · cases hF
end Go.Proofs.Ytfnfmbikooeiaaa

namespace Go.Proofs.Ytfnfmbikooeiaaa
open Go.Ax
theorem mix_spec (v : List Int) (a b c d : Nat) (x y : Int) (ha : a < 16) (hb : b < 16) (hc : c < 16) (hd : d < 16) :
    ACall Try.prog 54 [.ptr 0 0 0, .v (.int .i64 a), .v (.int .i64 b), .v (.int .i64 c), .v (.int .i64 d), .v (.int .u64 x), .v (.int .u64 y)] [some [.arr 16 .u64 v]]
      fun r h => r = .tup [] ∧ h = [some [.arr 16 .u64 (mixL v a b c d x y)]] := by
  refine acall_run (good2 1) Try.func54 rfl ⟨by kernel_rfl, by show 7 ≤ _; decide, by kernel_rfl, by kernel_rfl⟩ rfl ?_
  have hr : Try.f54.results.toList = [] := rfl
  have na : ∀ n : Nat, (0 : Int) ≤ n := fun n => Int.natCast_nonneg n
  have ha' : (a : Int) < 16 := by omega
  have hb' : (b : Int) < 16 := by omega
  have hc' : (c : Int) < 16 := by omega
  have hd' : (d : Int) < 16 := by omega
  simp only [c2_P, c2_odd, c2_ro, c2_70, F70_eq, Nat.reduceBEq, condR_bool, wantR_bool, reduceIte, Nat.reduceEqDiff, reduceCtorEq, ne_eq, if_true, if_false, exA, tabs, exB, exD, hr, buildA, rowOr, rowSetAt, rowAgg, mkAgg, AV.isAggV, AV.parts, AV.one, AV.solid, headSize, indexAddrA, indexA, fieldAddrA, fieldA, sliceA, boundsA, bndA, lenA, arrayAtA, rowOf, makeSliceA, intsOf, copyA, Nat.reduceAdd, Nat.reduceSub, Nat.reduceMul, Nat.reduceLeDiff, Nat.reduceLT, Nat.reduceGT, Int.reduceToNat, Int.reduceLE, Int.reduceLT, Int.reduceEq, Int.reduceNe, Int.reduceAdd, Int.reduceSub, Int.reduceMul, Int.reduceNeg, ite_true, ite_false, dite_true, na, ha, hb, hc, hd, ha', hb', hc', hd', Int.toNat_natCast, rot32, rot24, rot16, rot63, u64_add_r, u64_add_l, Int.add_assoc, addx_eq, addp_eq, rotp_eq, mixL]
theorem rmix_spec (v : List Int) (a b c d : Nat) (x y : Int) (hv : v.length = 16) (ha : a < 16) (hb : b < 16) (hc : c < 16) (hd : d < 16) :
    ACall Try.prog 56 [.arr 16 .u64 v, .v (.int .i64 a), .v (.int .i64 b), .v (.int .i64 c), .v (.int .i64 d), .v (.int .u64 x), .v (.int .u64 y)] []
      fun r _ => r = .arr 16 .u64 (mixL v a b c d x y) := by
  refine acall_run (good2 0) Try.func56 rfl ⟨by kernel_rfl, by show 7 ≤ _; decide, by kernel_rfl, by kernel_rfl⟩ rfl ?_
  have hr : Try.f56.results.toList = [.cell 14 60] := rfl
  have na : ∀ n : Nat, (0 : Int) ≤ n := fun n => Int.natCast_nonneg n
  have ha' : (a : Int) < 16 := by omega
  have hb' : (b : Int) < 16 := by omega
  have hc' : (c : Int) < 16 := by omega
  have hd' : (d : Int) < 16 := by omega
  simp only [c2_P, c2_odd, c2_ro, c2_71, F71_32, F71_24, F71_16, F71_63, Nat.reduceBEq, condR_bool, wantR_bool, reduceIte, Nat.reduceEqDiff, reduceCtorEq, ne_eq, if_true, if_false, exA, tabs, exB, exD, hr, buildA, rowOr, rowSetAt, rowAgg, mkAgg, AV.isAggV, AV.parts, AV.one, AV.solid, headSize, indexAddrA, indexA, fieldAddrA, fieldA, sliceA, boundsA, bndA, lenA, arrayAtA, rowOf, makeSliceA, intsOf, copyA, Nat.reduceAdd, Nat.reduceSub, Nat.reduceMul, Nat.reduceLeDiff, Nat.reduceLT, Nat.reduceGT, Int.reduceToNat, Int.reduceLE, Int.reduceLT, Int.reduceEq, Int.reduceNe, Int.reduceAdd, Int.reduceSub, Int.reduceMul, Int.reduceNeg, ite_true, ite_false, dite_true, na, ha, hb, hc, hd, ha', hb', hc', hd', Int.toNat_natCast, u64_add_r, u64_add_l, Int.add_assoc, addx_eq, addp_eq, rotp_eq, mixL]
  rw [List.take_of_length_le (by simp [rotp, addp, addx, hv]), List.take_of_length_le (by simp [rotp, addp, addx, hv])]
end Go.Proofs.Ytfnfmbikooeiaaa

namespace Go.Proofs.Ytfnfmbikooeiaaa
open Go.Ax
def strOp : Op → Option ByteArray
  | .index _ (.const (.string s)) _ => some s
  | .slice _ (.const (.string s)) _ _ _ => some s
  | _ => none
def strCode : Code → Option ByteArray
  | .region _ ops _ => ops.toList.findSome? fun o => strOp o.op
  | .seq a b => (strCode a).or (strCode b)
  | _ => none
noncomputable def ordS : ByteArray := ((Try.f55.body.bind strCode).getD ⟨#[]⟩)
theorem ordS_size : ordS.size = 160 := by kernel_rfl
theorem ordS_digit : ∀ j : Fin 160, digitI ((ordS.data.toList.getD j.val 0).toNat : Int) = ((sigma.getD j.val 0 : Nat) : Int) := by decide +kernel
theorem sigma_lt : ∀ j : Nat, sigma.getD j 0 < 16 := by
  intro j
  by_cases h : j < 160
  · have : ∀ j : Fin 160, sigma.getD j.val 0 < 16 := by decide
    exact this ⟨j, h⟩
  · have : sigma.getD j 0 = 0 := by
      rw [List.getD_eq_getElem?_getD, List.getElem?_eq_none (by simp [sigma]; omega)]; rfl
    omega
theorem ext_getD (s : ByteArray) (i j n : Nat) (h : i + n ≤ s.size) (hj : j < n) : ((s.extract i s.size).extract 0 n).data.toList.getD j 0 = s.data.toList.getD (i + j) 0 := by
  simp only [ByteArray.data_extract, Array.toList_extract, List.extract_eq_take_drop, List.getD_eq_getElem?_getD]
  rw [List.drop_zero, List.getElem?_take_of_lt (by omega), List.getElem?_take_of_lt (by omega), List.getElem?_drop]
theorem ext_size (s : ByteArray) (i n : Nat) (h : i + n ≤ s.size) : ((s.extract i s.size).extract 0 n).size = n := by
  simp only [ByteArray.size_extract]; omega
end Go.Proofs.Ytfnfmbikooeiaaa

namespace Go.Proofs.Ytfnfmbikooeiaaa
open Go.Ax
theorem piece_false (h p : List Int) (t : Int) (hh : h.length = 8) (hp : p.length = 128) :
    ACall Try.prog 23 [.arr 8 .u64 h, .arr 128 .u8 p, .v (.int .u64 t), .v (.bool false)] [] fun v _ => v = .arr 8 .u64 (pieceL h p t false) := by
  refine acall_run (good2 0) Try.func23 rfl ⟨by kernel_rfl, by show 4 ≤ _; decide, by kernel_rfl, by kernel_rfl⟩ rfl ?_
  have hr : Try.f23.results.toList = [.cell 8 30] := rfl
  have hp1 : p.take 128 = p := List.take_of_length_le (by omega)
  simp only [c2_P, c2_odd, c2_ro, Nat.reduceBEq, condR_bool, wantR_bool, reduceIte, Nat.reduceEqDiff, reduceCtorEq, ne_eq, if_true, if_false, exA, tabs, exB, exD, hr, buildA, rowOr, rowSetAt, rowAgg, mkAgg, AV.isAggV, AV.parts, AV.one, AV.solid, headSize, indexAddrA, indexA, fieldAddrA, fieldA, sliceA, boundsA, bndA, lenA, arrayAtA, rowOf, makeSliceA, intsOf, copyA, Nat.reduceAdd, Nat.reduceSub, Nat.reduceMul, Nat.reduceLeDiff, Nat.reduceLT, Nat.reduceGT, Int.reduceToNat, Int.reduceLE, Int.reduceLT, Int.reduceEq, Int.reduceNe, Int.reduceAdd, Int.reduceSub, Int.reduceMul, Int.reduceNeg, ite_true, ite_false, dite_true, hp1]
  refine loopR_of (good2 0) (α := {i : Nat // i ≤ 128}) (fun i => ⟨envL [(2, .v (.int .u64 t)), (3, .v (.bool false)), (4, .ptr 0 0 0), (8, .ptr 2 0 0), (9, .ptr 3 0 0), (10, .ptr 4 0 0), (21, .arr 128 .u8 p), (22, .v (.int .i64 i.val))],
    [some [.arr 8 .u64 h], some [.arr 128 .u8 p], some [.arr 8 .u64 (List.replicate 8 0)], some [.arr 16 .u64 (wordsAt p i.val)], some [.arr 16 .u64 (List.replicate 16 0)]]⟩) (fun i => 128 - i.val) ⟨0, by omega⟩ (by kernel_rfl) ?_ ?_
  · exact weak_all (by simp only [List.take_length, List.drop_length, Nat.min_self, List.length_replicate, List.length_append, List.length_set, List.length_map, List.length_range, List.length_take, List.length_drop, buildA, layA, rowPut, rowOr, rowSetAt, rowSet, rowTake, rowDrop, rowCell, rowAgg, mkAgg, AV.size, AV.isAggV, AV.parts, AV.one, AV.solid, headSize, psize, envAll_nil, envAll_cons, get_envL_nil, get_envL_cons, thenK_normal, thenK_exit, thenK_ret, storeA_ptr, stK_some, stC_some, stD_cell, stD_agg, stE_some, stE_guard, loadA_ptr, loadA_rop, ldK_cell, ldK_agg, ldC_some, ldD_some, laC_some, laD_some, row_def, indexAddrA, indexA, fieldAddrA, fieldA, sliceA, boundsA, bndA, lenA, arrayAtA, rowOf, makeSliceA, intsOf, copyA, List.getElem?_cons_zero, List.getElem?_cons_succ, List.length_cons, List.length_nil, List.set_cons_zero, List.set_cons_succ, Nat.reduceAdd, Nat.reduceSub, Nat.reduceMul, Nat.reduceLeDiff, Nat.reduceLT, Nat.reduceGT, Int.reduceToNat, Int.reduceLE, Int.reduceLT, Int.reduceEq, Int.reduceNe, Int.reduceAdd, Int.reduceSub, Int.reduceMul, Nat.zero_add, Nat.add_zero, Nat.mul_one, Nat.one_mul, Nat.zero_mul, Nat.mul_zero, Nat.sub_zero, Nat.le_refl, Int.reduceNeg, ge_iff_le, gt_iff_lt, Option.isSome_none, Option.isSome_some, Bool.not_true, Bool.not_false, Bool.not_not, List.take_zero, List.drop_zero, List.tail_cons, or_true, true_or, or_false, false_or, not_true, not_false_iff, Int.ofNat_eq_natCast, Int.cast_ofNat_Int, reduceIte, ite_true, ite_false, dite_true, get_put, get_envOf, List.getD_cons_zero, List.getD_cons_succ, Nat.reduceEqDiff, reduceIte, and_self, Int.cast_ofNat_Int])
  · rintro ⟨i, hi⟩
    have na : ∀ n : Nat, (0 : Int) ≤ n := fun n => Int.natCast_nonneg n
    by_cases hlt : i < 128
    · have h1 : (i : Int) < 128 := by omega
      have h2 : i / 8 < 16 := by omega
      have h3 : ((i / 8 : Nat) : Int) < 16 := by omega
      have h4 : IntKind.i64.wrap (8 * ((i % 8 : Nat) : Int)) = ((8 * (i % 8) : Nat) : Int) := by rw [i64_id _ (by omega)]; omega
      have h5 : IntKind.i64.wrap ((i / 8 : Nat) : Int) = ((i / 8 : Nat) : Int) := i64_nat _ (by omega)
      have h6 : IntKind.i64.wrap ((i : Int) + 1) = ((i + 1 : Nat) : Int) := by rw [i64_id _ (by omega)]; omega
      simp only [c2_P, c2_odd, c2_ro, Nat.reduceBEq, condR_bool, wantR_bool, reduceIte, Nat.reduceEqDiff, reduceCtorEq, ne_eq, if_true, if_false, exA, tabs, exB, exD, hr, buildA, rowOr, rowSetAt, rowAgg, mkAgg, AV.isAggV, AV.parts, AV.one, AV.solid, headSize, indexAddrA, indexA, fieldAddrA, fieldA, sliceA, boundsA, bndA, lenA, arrayAtA, rowOf, makeSliceA, intsOf, copyA, Nat.reduceAdd, Nat.reduceSub, Nat.reduceMul, Nat.reduceLeDiff, Nat.reduceLT, Nat.reduceGT, Int.reduceToNat, Int.reduceLE, Int.reduceLT, Int.reduceEq, Int.reduceNe, Int.reduceAdd, Int.reduceSub, Int.reduceMul, Int.reduceNeg, ite_true, ite_false, dite_true, h1, h2, h3, h4, h5, h6, na, Int.toNat_natCast, tdiv8, tmod8]
      refine ⟨⟨i + 1, by omega⟩, by simp only; omega, weak_all ?_⟩
      simp only [List.take_length, List.drop_length, Nat.min_self, List.length_replicate, List.length_append, List.length_set, List.length_map, List.length_range, List.length_take, List.length_drop, buildA, layA, rowPut, rowOr, rowSetAt, rowSet, rowTake, rowDrop, rowCell, rowAgg, mkAgg, AV.size, AV.isAggV, AV.parts, AV.one, AV.solid, headSize, psize, envAll_nil, envAll_cons, get_envL_nil, get_envL_cons, thenK_normal, thenK_exit, thenK_ret, storeA_ptr, stK_some, stC_some, stD_cell, stD_agg, stE_some, stE_guard, loadA_ptr, loadA_rop, ldK_cell, ldK_agg, ldC_some, ldD_some, laC_some, laD_some, row_def, indexAddrA, indexA, fieldAddrA, fieldA, sliceA, boundsA, bndA, lenA, arrayAtA, rowOf, makeSliceA, intsOf, copyA, List.getElem?_cons_zero, List.getElem?_cons_succ, List.length_cons, List.length_nil, List.set_cons_zero, List.set_cons_succ, Nat.reduceAdd, Nat.reduceSub, Nat.reduceMul, Nat.reduceLeDiff, Nat.reduceLT, Nat.reduceGT, Int.reduceToNat, Int.reduceLE, Int.reduceLT, Int.reduceEq, Int.reduceNe, Int.reduceAdd, Int.reduceSub, Int.reduceMul, Nat.zero_add, Nat.add_zero, Nat.mul_one, Nat.one_mul, Nat.zero_mul, Nat.mul_zero, Nat.sub_zero, Nat.le_refl, Int.reduceNeg, ge_iff_le, gt_iff_lt, Option.isSome_none, Option.isSome_some, Bool.not_true, Bool.not_false, Bool.not_not, List.take_zero, List.drop_zero, List.tail_cons, or_true, true_or, or_false, false_or, not_true, not_false_iff, Int.ofNat_eq_natCast, Int.cast_ofNat_Int, reduceIte, ite_true, ite_false, dite_true, get_put, get_envOf, List.getD_cons_zero, List.getD_cons_succ, Nat.reduceEqDiff, reduceIte, and_self]
    · have h1 : ¬ (i : Int) < 128 := by omega
      have hi : i = 128 := by omega
      subst hi
      have hh1 : h.take 8 = h := List.take_of_length_le (by omega)
      have hh2 : h.take 16 = h := List.take_of_length_le (by omega)
      have hA : (List.replicate 16 (0 : Int)).drop 8 = List.replicate 8 0 := rfl
      have hB : (h ++ List.replicate 8 0).take 8 = h := by rw [List.take_append_of_le_length (by omega), hh1]
      have hC : (h ++ List.replicate 8 (0 : Int)).drop 16 = [] := List.drop_eq_nil_of_le (by simp [hh])
      have hD : firstL.take 8 = firstL := rfl
      have hE : firstL.length = 8 := rfl
      have hF : min 8 16 = 8 := rfl
      have hG : IntKind.u64.signed = false := rfl
      simp only [c2_P, c2_odd, c2_ro, c2_25, F25_eq, Nat.reduceBEq, condR_bool, wantR_bool, reduceIte, Nat.reduceEqDiff, reduceCtorEq, ne_eq, if_true, if_false, exA, tabs, exB, exD, hr, buildA, rowOr, rowSetAt, rowAgg, mkAgg, AV.isAggV, AV.parts, AV.one, AV.solid, headSize, indexAddrA, indexA, fieldAddrA, fieldA, sliceA, boundsA, bndA, lenA, arrayAtA, rowOf, makeSliceA, intsOf, copyA, Nat.reduceAdd, Nat.reduceSub, Nat.reduceMul, Nat.reduceLeDiff, Nat.reduceLT, Nat.reduceGT, Int.reduceToNat, Int.reduceLE, Int.reduceLT, Int.reduceEq, Int.reduceNe, Int.reduceAdd, Int.reduceSub, Int.reduceMul, Int.reduceNeg, ite_true, ite_false, dite_true, h1, na, Int.toNat_natCast, hh1, hh2, hh, hA, hB, hC, hD, hE, hF, hG]
      refine loopR_of (good2 0) (α := {i : Nat // i ≤ 12}) (fun i => ⟨envL [(4, .ptr 0 0 0), (8, .ptr 2 0 0), (9, .ptr 3 0 0), (10, .ptr 4 0 0), (56, .v (.int .i64 i.val))],
        [some [.arr 8 .u64 h], some [.arr 128 .u8 p], some [.arr 8 .u64 (List.replicate 8 0)], some [.arr 16 .u64 (wordsAt p 128)], some [.arr 16 .u64 (allAt (wordsAt p 128) (vInit h t false) i.val)], some [.arr 8 .u64 firstL]]⟩) (fun i => 12 - i.val) ⟨0, by omega⟩ (by kernel_rfl) ?_ ?_
      · exact weak_all ⟨rfl, rfl, rfl, rfl, rfl, trivial⟩
      · rintro ⟨r, hi⟩
        have e := @id (ordS = ByteArray.mk (List.append (List.append _ _) (List.append _ _)).toArray) rfl
        rw [← e]
        clear e
        by_cases hlt : r < 12
        · have h1 : (r : Int) < 12 := by omega
          have h2 : IntKind.i64.wrap (16 * ((r % 10 : Nat) : Int)) = ((16 * (r % 10) : Nat) : Int) := by rw [i64_id _ (by omega)]; omega
          have h3 : ((16 * (r % 10) : Nat) : Int) ≤ 160 := by omega
          have h4 : ((ordS.extract (16 * (r % 10)) 160).extract 0 16).size = 16 := by simp only [ByteArray.size_extract, ordS_size]; omega
          have h5 : (16 : Int) ≤ (((ordS.extract (16 * (r % 10)) 160).size : Nat) : Int) := by simp only [ByteArray.size_extract, ordS_size]; omega
          have hlen : (16 * (r % 10)) + 16 ≤ ordS.size := by rw [ordS_size]; omega
          have h6 : ∀ j, j < 16 → digitI ((((ordS.extract (16 * (r % 10)) 160).extract 0 16).data.toList.getD j 0).toNat : Int) = ((sigma.getD (16 * (r % 10) + j) 0 : Nat) : Int) := by
            intro j hj
            have := ext_getD ordS (16 * (r % 10)) j 16 hlen hj
            rw [ordS_size] at this
            rw [this]
            exact ordS_digit ⟨16 * (r % 10) + j, by omega⟩
          have h7 : IntKind.i64.wrap ((r : Int) + 1) = ((r + 1 : Nat) : Int) := by rw [i64_id _ (by omega)]; omega
          simp only [c2_P, c2_odd, c2_ro, Nat.reduceBEq, condR_bool, wantR_bool, reduceIte, Nat.reduceEqDiff, reduceCtorEq, ne_eq, if_true, if_false, exA, tabs, exB, exD, hr, buildA, rowOr, rowSetAt, rowAgg, mkAgg, AV.isAggV, AV.parts, AV.one, AV.solid, headSize, indexAddrA, indexA, fieldAddrA, fieldA, sliceA, boundsA, bndA, lenA, arrayAtA, rowOf, makeSliceA, intsOf, copyA, Nat.reduceAdd, Nat.reduceSub, Nat.reduceMul, Nat.reduceLeDiff, Nat.reduceLT, Nat.reduceGT, Int.reduceToNat, Int.reduceLE, Int.reduceLT, Int.reduceEq, Int.reduceNe, Int.reduceAdd, Int.reduceSub, Int.reduceMul, Int.reduceNeg, ite_true, ite_false, dite_true, h1, h2, h3, h5, na, Int.toNat_natCast, tmod10, ordS_size]
          refine loopR_of (good2 0) (α := {i : Nat // i ≤ 8}) (fun i => ⟨envL [(4, .ptr 0 0 0), (8, .ptr 2 0 0), (9, .ptr 3 0 0), (10, .ptr 4 0 0), (56, .v (.int .i64 r)), (15, .v (.string ((ordS.extract (16 * (r % 10)) 160).extract 0 16))), (64, .v (.int .i64 i.val))],
            [some [.arr 8 .u64 h], some [.arr 128 .u8 p], some [.arr 8 .u64 (List.replicate 8 0)], some [.arr 16 .u64 (wordsAt p 128)], some [.arr 16 .u64 (roundAt (wordsAt p 128) (allAt (wordsAt p 128) (vInit h t false) r) r i.val)], some [.arr 8 .u64 firstL]]⟩) (fun i => 8 - i.val) ⟨0, by omega⟩ (by kernel_rfl) ?_ ?_
          · exact weak_all ⟨rfl, rfl, rfl, rfl, rfl, rfl, rfl, trivial⟩
          · rintro ⟨k, hk⟩
            by_cases hkt : k < 8
            · have k1 : (k : Int) < 8 := by omega
              have k2 : IntKind.i64.wrap (2 * (k : Int)) = ((2 * k : Nat) : Int) := by rw [i64_id _ (by omega)]; omega
              have k3 : IntKind.i64.wrap (((2 * k : Nat) : Int) + 1) = ((2 * k + 1 : Nat) : Int) := by rw [i64_id _ (by omega)]; omega
              have k4 : ((2 * k : Nat) : Int) < 16 := by omega
              have k5 : ((2 * k + 1 : Nat) : Int) < 16 := by omega
              have k6 := h6 (2 * k) (by omega)
              have k7 := h6 (2 * k + 1) (by omega)
              have k8 : ∀ j, (((sigma.getD j 0 : Nat) : Int) < 16) = True := fun j => eq_true (by have := sigma_lt j; omega)
              have k9 : ∀ j, ((sigma.getD j 0) < 16) = True := fun j => eq_true (sigma_lt j)
              have e0 : IntKind.i64.wrap ((k / 4 : Nat) : Int) = ((k / 4 : Nat) : Int) := i64_nat _ (by omega)
              have e1 : IntKind.i64.wrap ((k : Int) + ((k / 4 : Nat) : Int)) = ((k + k / 4 : Nat) : Int) := by rw [i64_id _ (by omega)]; omega
              have e2 : IntKind.i64.wrap (4 + (((k + k / 4) % 4 : Nat) : Int)) = ((4 + (k + k / 4) % 4 : Nat) : Int) := by rw [i64_id _ (by omega)]; omega
              have e3 : IntKind.i64.wrap (2 * ((k / 4 : Nat) : Int)) = ((2 * (k / 4) : Nat) : Int) := by rw [i64_id _ (by omega)]; omega
              have e4 : IntKind.i64.wrap ((k : Int) + ((2 * (k / 4) : Nat) : Int)) = ((k + 2 * (k / 4) : Nat) : Int) := by rw [i64_id _ (by omega)]; omega
              have e5 : IntKind.i64.wrap (8 + (((k + 2 * (k / 4)) % 4 : Nat) : Int)) = ((8 + (k + 2 * (k / 4)) % 4 : Nat) : Int) := by rw [i64_id _ (by omega)]; omega
              have e6 : IntKind.i64.wrap (3 * ((k / 4 : Nat) : Int)) = ((3 * (k / 4) : Nat) : Int) := by rw [i64_id _ (by omega)]; omega
              have e7 : IntKind.i64.wrap ((k : Int) + ((3 * (k / 4) : Nat) : Int)) = ((k + 3 * (k / 4) : Nat) : Int) := by rw [i64_id _ (by omega)]; omega
              have e8 : IntKind.i64.wrap (12 + (((k + 3 * (k / 4)) % 4 : Nat) : Int)) = ((12 + (k + 3 * (k / 4)) % 4 : Nat) : Int) := by rw [i64_id _ (by omega)]; omega
              have e9 : IntKind.i64.wrap ((k : Int) + 1) = ((k + 1 : Nat) : Int) := by rw [i64_id _ (by omega)]; omega
              simp only [c2_P, c2_odd, c2_ro, c2_53, c2_54, F53_eq, Nat.reduceBEq, condR_bool, wantR_bool, reduceIte, Nat.reduceEqDiff, reduceCtorEq, ne_eq, if_true, if_false, exA, tabs, exB, exD, hr, buildA, rowOr, rowSetAt, rowAgg, mkAgg, AV.isAggV, AV.parts, AV.one, AV.solid, headSize, indexAddrA, indexA, fieldAddrA, fieldA, sliceA, boundsA, bndA, lenA, arrayAtA, rowOf, makeSliceA, intsOf, copyA, Nat.reduceAdd, Nat.reduceSub, Nat.reduceMul, Nat.reduceLeDiff, Nat.reduceLT, Nat.reduceGT, Int.reduceToNat, Int.reduceLE, Int.reduceLT, Int.reduceEq, Int.reduceNe, Int.reduceAdd, Int.reduceSub, Int.reduceMul, Int.reduceNeg, ite_true, ite_false, dite_true, h4, k1, k2, k3, k4, k5, k6, k7, k8, k9, na, Int.toNat_natCast, tmod4, tdiv4, e0, e1, e2, e3, e4, e5, e6, e7, e8]
              refine callC_frame (C := c2 0) (mix_spec (roundAt (wordsAt p 128) (allAt (wordsAt p 128) (vInit h t false) r) r k) (k % 4) (4 + (k + k / 4) % 4) (8 + (k + 2 * (k / 4)) % 4) (12 + (k + 3 * (k / 4)) % 4) ((wordsAt p 128).getD (sigma.getD (16 * (r % 10) + 2 * k) 0) 0) ((wordsAt p 128).getD (sigma.getD (16 * (r % 10) + (2 * k + 1)) 0) 0) (by omega) (by omega) (by omega) (by omega)) [4] ?_ ?_ ?_ ?_ ?_ ?_
              · rfl
              · rfl
              · decide
              · intro q hq
                simp only [List.mem_cons, List.not_mem_nil, or_false] at hq
                subst hq
                simp only [List.length_cons, List.length_nil]; omega
              · intro j hj
                match j, hj with
                | 0, _ => rfl
              · rintro _ _ ⟨rfl, rfl⟩
                simp only [c2_P, c2_odd, c2_ro, Nat.reduceBEq, condR_bool, wantR_bool, reduceIte, Nat.reduceEqDiff, reduceCtorEq, ne_eq, if_true, if_false, exA, tabs, exB, exD, hr, buildA, rowOr, rowSetAt, rowAgg, mkAgg, AV.isAggV, AV.parts, AV.one, AV.solid, headSize, indexAddrA, indexA, fieldAddrA, fieldA, sliceA, boundsA, bndA, lenA, arrayAtA, rowOf, makeSliceA, intsOf, copyA, Nat.reduceAdd, Nat.reduceSub, Nat.reduceMul, Nat.reduceLeDiff, Nat.reduceLT, Nat.reduceGT, Int.reduceToNat, Int.reduceLE, Int.reduceLT, Int.reduceEq, Int.reduceNe, Int.reduceAdd, Int.reduceSub, Int.reduceMul, Int.reduceNeg, ite_true, ite_false, dite_true, e9, overwrite, renB, renL, AV.ren]
                refine ⟨⟨k + 1, by omega⟩, by simp only; omega, weak_all ?_⟩
                exact ⟨rfl, rfl, rfl, rfl, rfl, rfl, rfl, trivial⟩
            · have k1 : ¬ (k : Int) < 8 := by omega
              have hk8 : k = 8 := by omega
              subst hk8
              simp only [c2_P, c2_odd, c2_ro, Nat.reduceBEq, condR_bool, wantR_bool, reduceIte, Nat.reduceEqDiff, reduceCtorEq, ne_eq, if_true, if_false, exA, tabs, exB, exD, hr, buildA, rowOr, rowSetAt, rowAgg, mkAgg, AV.isAggV, AV.parts, AV.one, AV.solid, headSize, indexAddrA, indexA, fieldAddrA, fieldA, sliceA, boundsA, bndA, lenA, arrayAtA, rowOf, makeSliceA, intsOf, copyA, Nat.reduceAdd, Nat.reduceSub, Nat.reduceMul, Nat.reduceLeDiff, Nat.reduceLT, Nat.reduceGT, Int.reduceToNat, Int.reduceLE, Int.reduceLT, Int.reduceEq, Int.reduceNe, Int.reduceAdd, Int.reduceSub, Int.reduceMul, Int.reduceNeg, ite_true, ite_false, dite_true, k1, h7]
              refine ⟨⟨r + 1, by omega⟩, by simp only; omega, weak_all ?_⟩
              exact ⟨rfl, rfl, rfl, rfl, rfl, trivial⟩
        · have h1 : ¬ (r : Int) < 12 := by omega
          have hi : r = 12 := by omega
          subst hi
          simp only [c2_P, c2_odd, c2_ro, Nat.reduceBEq, condR_bool, wantR_bool, reduceIte, Nat.reduceEqDiff, reduceCtorEq, ne_eq, if_true, if_false, exA, tabs, exB, exD, hr, buildA, rowOr, rowSetAt, rowAgg, mkAgg, AV.isAggV, AV.parts, AV.one, AV.solid, headSize, indexAddrA, indexA, fieldAddrA, fieldA, sliceA, boundsA, bndA, lenA, arrayAtA, rowOf, makeSliceA, intsOf, copyA, Nat.reduceAdd, Nat.reduceSub, Nat.reduceMul, Nat.reduceLeDiff, Nat.reduceLT, Nat.reduceGT, Int.reduceToNat, Int.reduceLE, Int.reduceLT, Int.reduceEq, Int.reduceNe, Int.reduceAdd, Int.reduceSub, Int.reduceMul, Int.reduceNeg, ite_true, ite_false, dite_true, h1, na, Int.toNat_natCast]
          refine loopR_of (good2 0) (α := {i : Nat // i ≤ 8}) (fun i => ⟨envL [(4, .ptr 0 0 0), (8, .ptr 2 0 0), (10, .ptr 4 0 0), (108, .v (.int .i64 i.val))],
            [some [.arr 8 .u64 (outAt h (allAt (wordsAt p 128) (vInit h t false) 12) i.val)], some [.arr 128 .u8 p], some [.arr 8 .u64 (List.replicate 8 0)], some [.arr 16 .u64 (wordsAt p 128)], some [.arr 16 .u64 (allAt (wordsAt p 128) (vInit h t false) 12)], some [.arr 8 .u64 firstL]]⟩) (fun i => 8 - i.val) ⟨0, by omega⟩ (by kernel_rfl) ?_ ?_
          · exact weak_all ⟨rfl, rfl, rfl, rfl, trivial⟩
          · rintro ⟨i, hi⟩
            by_cases hit : i < 8
            · have i1 : (i : Int) < 8 := by omega
              have i2 : IntKind.i64.wrap (8 + (i : Int)) = ((8 + i : Nat) : Int) := by rw [i64_id _ (by omega)]; omega
              have i3 : ((8 + i : Nat) : Int) < 16 := by omega
              have i4 : 8 + i < 16 := by omega
              have i5 : (i : Int) < 16 := by omega
              have i6 : i < 16 := by omega
              have i7 : IntKind.i64.wrap ((i : Int) + 1) = ((i + 1 : Nat) : Int) := by rw [i64_id _ (by omega)]; omega
              simp only [c2_P, c2_odd, c2_ro, Nat.reduceBEq, condR_bool, wantR_bool, reduceIte, Nat.reduceEqDiff, reduceCtorEq, ne_eq, if_true, if_false, exA, tabs, exB, exD, hr, buildA, rowOr, rowSetAt, rowAgg, mkAgg, AV.isAggV, AV.parts, AV.one, AV.solid, headSize, indexAddrA, indexA, fieldAddrA, fieldA, sliceA, boundsA, bndA, lenA, arrayAtA, rowOf, makeSliceA, intsOf, copyA, Nat.reduceAdd, Nat.reduceSub, Nat.reduceMul, Nat.reduceLeDiff, Nat.reduceLT, Nat.reduceGT, Int.reduceToNat, Int.reduceLE, Int.reduceLT, Int.reduceEq, Int.reduceNe, Int.reduceAdd, Int.reduceSub, Int.reduceMul, Int.reduceNeg, ite_true, ite_false, dite_true, na, Int.toNat_natCast, hit, i1, i2, i3, i4, i5, i6, i7]
              refine ⟨⟨i + 1, by omega⟩, by simp only; omega, weak_all ?_⟩
              exact ⟨rfl, rfl, rfl, rfl, trivial⟩
            · have i1 : ¬ (i : Int) < 8 := by omega
              have hi8 : i = 8 := by omega
              subst hi8
              have hlen : (outAt h (allAt (wordsAt p 128) (vInit h t false) 12) 8).length = 8 := by rw [outAt_length, hh]
              have hT : (outAt h (allAt (wordsAt p 128) (vInit h t false) 12) 8).take 8 = outAt h (allAt (wordsAt p 128) (vInit h t false) 12) 8 := List.take_of_length_le (by omega)
              simp only [c2_P, c2_odd, c2_ro, Nat.reduceBEq, condR_bool, wantR_bool, reduceIte, Nat.reduceEqDiff, reduceCtorEq, ne_eq, if_true, if_false, exA, tabs, exB, exD, hr, buildA, rowOr, rowSetAt, rowAgg, mkAgg, AV.isAggV, AV.parts, AV.one, AV.solid, headSize, indexAddrA, indexA, fieldAddrA, fieldA, sliceA, boundsA, bndA, lenA, arrayAtA, rowOf, makeSliceA, intsOf, copyA, Nat.reduceAdd, Nat.reduceSub, Nat.reduceMul, Nat.reduceLeDiff, Nat.reduceLT, Nat.reduceGT, Int.reduceToNat, Int.reduceLE, Int.reduceLT, Int.reduceEq, Int.reduceNe, Int.reduceAdd, Int.reduceSub, Int.reduceMul, Int.reduceNeg, ite_true, ite_false, dite_true, i1, hT, pieceL]
theorem piece_true (h p : List Int) (t : Int) (hh : h.length = 8) (hp : p.length = 128) :
    ACall Try.prog 23 [.arr 8 .u64 h, .arr 128 .u8 p, .v (.int .u64 t), .v (.bool true)] [] fun v _ => v = .arr 8 .u64 (pieceL h p t true) := by
  refine acall_run (good2 0) Try.func23 rfl ⟨by kernel_rfl, by show 4 ≤ _; decide, by kernel_rfl, by kernel_rfl⟩ rfl ?_
  have hr : Try.f23.results.toList = [.cell 8 30] := rfl
  have hp1 : p.take 128 = p := List.take_of_length_le (by omega)
  simp only [c2_P, c2_odd, c2_ro, Nat.reduceBEq, condR_bool, wantR_bool, reduceIte, Nat.reduceEqDiff, reduceCtorEq, ne_eq, if_true, if_false, exA, tabs, exB, exD, hr, buildA, rowOr, rowSetAt, rowAgg, mkAgg, AV.isAggV, AV.parts, AV.one, AV.solid, headSize, indexAddrA, indexA, fieldAddrA, fieldA, sliceA, boundsA, bndA, lenA, arrayAtA, rowOf, makeSliceA, intsOf, copyA, Nat.reduceAdd, Nat.reduceSub, Nat.reduceMul, Nat.reduceLeDiff, Nat.reduceLT, Nat.reduceGT, Int.reduceToNat, Int.reduceLE, Int.reduceLT, Int.reduceEq, Int.reduceNe, Int.reduceAdd, Int.reduceSub, Int.reduceMul, Int.reduceNeg, ite_true, ite_false, dite_true, hp1]
  refine loopR_of (good2 0) (α := {i : Nat // i ≤ 128}) (fun i => ⟨envL [(2, .v (.int .u64 t)), (3, .v (.bool true)), (4, .ptr 0 0 0), (8, .ptr 2 0 0), (9, .ptr 3 0 0), (10, .ptr 4 0 0), (21, .arr 128 .u8 p), (22, .v (.int .i64 i.val))],
    [some [.arr 8 .u64 h], some [.arr 128 .u8 p], some [.arr 8 .u64 (List.replicate 8 0)], some [.arr 16 .u64 (wordsAt p i.val)], some [.arr 16 .u64 (List.replicate 16 0)]]⟩) (fun i => 128 - i.val) ⟨0, by omega⟩ (by kernel_rfl) ?_ ?_
  · exact weak_all (by simp only [List.take_length, List.drop_length, Nat.min_self, List.length_replicate, List.length_append, List.length_set, List.length_map, List.length_range, List.length_take, List.length_drop, buildA, layA, rowPut, rowOr, rowSetAt, rowSet, rowTake, rowDrop, rowCell, rowAgg, mkAgg, AV.size, AV.isAggV, AV.parts, AV.one, AV.solid, headSize, psize, envAll_nil, envAll_cons, get_envL_nil, get_envL_cons, thenK_normal, thenK_exit, thenK_ret, storeA_ptr, stK_some, stC_some, stD_cell, stD_agg, stE_some, stE_guard, loadA_ptr, loadA_rop, ldK_cell, ldK_agg, ldC_some, ldD_some, laC_some, laD_some, row_def, indexAddrA, indexA, fieldAddrA, fieldA, sliceA, boundsA, bndA, lenA, arrayAtA, rowOf, makeSliceA, intsOf, copyA, List.getElem?_cons_zero, List.getElem?_cons_succ, List.length_cons, List.length_nil, List.set_cons_zero, List.set_cons_succ, Nat.reduceAdd, Nat.reduceSub, Nat.reduceMul, Nat.reduceLeDiff, Nat.reduceLT, Nat.reduceGT, Int.reduceToNat, Int.reduceLE, Int.reduceLT, Int.reduceEq, Int.reduceNe, Int.reduceAdd, Int.reduceSub, Int.reduceMul, Nat.zero_add, Nat.add_zero, Nat.mul_one, Nat.one_mul, Nat.zero_mul, Nat.mul_zero, Nat.sub_zero, Nat.le_refl, Int.reduceNeg, ge_iff_le, gt_iff_lt, Option.isSome_none, Option.isSome_some, Bool.not_true, Bool.not_false, Bool.not_not, List.take_zero, List.drop_zero, List.tail_cons, or_true, true_or, or_false, false_or, not_true, not_false_iff, Int.ofNat_eq_natCast, Int.cast_ofNat_Int, reduceIte, ite_true, ite_false, dite_true, get_put, get_envOf, List.getD_cons_zero, List.getD_cons_succ, Nat.reduceEqDiff, reduceIte, and_self, Int.cast_ofNat_Int])
  · rintro ⟨i, hi⟩
    have na : ∀ n : Nat, (0 : Int) ≤ n := fun n => Int.natCast_nonneg n
    by_cases hlt : i < 128
    · have h1 : (i : Int) < 128 := by omega
      have h2 : i / 8 < 16 := by omega
      have h3 : ((i / 8 : Nat) : Int) < 16 := by omega
      have h4 : IntKind.i64.wrap (8 * ((i % 8 : Nat) : Int)) = ((8 * (i % 8) : Nat) : Int) := by rw [i64_id _ (by omega)]; omega
      have h5 : IntKind.i64.wrap ((i / 8 : Nat) : Int) = ((i / 8 : Nat) : Int) := i64_nat _ (by omega)
      have h6 : IntKind.i64.wrap ((i : Int) + 1) = ((i + 1 : Nat) : Int) := by rw [i64_id _ (by omega)]; omega
      simp only [c2_P, c2_odd, c2_ro, Nat.reduceBEq, condR_bool, wantR_bool, reduceIte, Nat.reduceEqDiff, reduceCtorEq, ne_eq, if_true, if_false, exA, tabs, exB, exD, hr, buildA, rowOr, rowSetAt, rowAgg, mkAgg, AV.isAggV, AV.parts, AV.one, AV.solid, headSize, indexAddrA, indexA, fieldAddrA, fieldA, sliceA, boundsA, bndA, lenA, arrayAtA, rowOf, makeSliceA, intsOf, copyA, Nat.reduceAdd, Nat.reduceSub, Nat.reduceMul, Nat.reduceLeDiff, Nat.reduceLT, Nat.reduceGT, Int.reduceToNat, Int.reduceLE, Int.reduceLT, Int.reduceEq, Int.reduceNe, Int.reduceAdd, Int.reduceSub, Int.reduceMul, Int.reduceNeg, ite_true, ite_false, dite_true, h1, h2, h3, h4, h5, h6, na, Int.toNat_natCast, tdiv8, tmod8]
      refine ⟨⟨i + 1, by omega⟩, by simp only; omega, weak_all ?_⟩
      simp only [List.take_length, List.drop_length, Nat.min_self, List.length_replicate, List.length_append, List.length_set, List.length_map, List.length_range, List.length_take, List.length_drop, buildA, layA, rowPut, rowOr, rowSetAt, rowSet, rowTake, rowDrop, rowCell, rowAgg, mkAgg, AV.size, AV.isAggV, AV.parts, AV.one, AV.solid, headSize, psize, envAll_nil, envAll_cons, get_envL_nil, get_envL_cons, thenK_normal, thenK_exit, thenK_ret, storeA_ptr, stK_some, stC_some, stD_cell, stD_agg, stE_some, stE_guard, loadA_ptr, loadA_rop, ldK_cell, ldK_agg, ldC_some, ldD_some, laC_some, laD_some, row_def, indexAddrA, indexA, fieldAddrA, fieldA, sliceA, boundsA, bndA, lenA, arrayAtA, rowOf, makeSliceA, intsOf, copyA, List.getElem?_cons_zero, List.getElem?_cons_succ, List.length_cons, List.length_nil, List.set_cons_zero, List.set_cons_succ, Nat.reduceAdd, Nat.reduceSub, Nat.reduceMul, Nat.reduceLeDiff, Nat.reduceLT, Nat.reduceGT, Int.reduceToNat, Int.reduceLE, Int.reduceLT, Int.reduceEq, Int.reduceNe, Int.reduceAdd, Int.reduceSub, Int.reduceMul, Nat.zero_add, Nat.add_zero, Nat.mul_one, Nat.one_mul, Nat.zero_mul, Nat.mul_zero, Nat.sub_zero, Nat.le_refl, Int.reduceNeg, ge_iff_le, gt_iff_lt, Option.isSome_none, Option.isSome_some, Bool.not_true, Bool.not_false, Bool.not_not, List.take_zero, List.drop_zero, List.tail_cons, or_true, true_or, or_false, false_or, not_true, not_false_iff, Int.ofNat_eq_natCast, Int.cast_ofNat_Int, reduceIte, ite_true, ite_false, dite_true, get_put, get_envOf, List.getD_cons_zero, List.getD_cons_succ, Nat.reduceEqDiff, reduceIte, and_self]
    · have h1 : ¬ (i : Int) < 128 := by omega
      have hi : i = 128 := by omega
      subst hi
      have hh1 : h.take 8 = h := List.take_of_length_le (by omega)
      have hh2 : h.take 16 = h := List.take_of_length_le (by omega)
      have hA : (List.replicate 16 (0 : Int)).drop 8 = List.replicate 8 0 := rfl
      have hB : (h ++ List.replicate 8 0).take 8 = h := by rw [List.take_append_of_le_length (by omega), hh1]
      have hC : (h ++ List.replicate 8 (0 : Int)).drop 16 = [] := List.drop_eq_nil_of_le (by simp [hh])
      have hD : firstL.take 8 = firstL := rfl
      have hE : firstL.length = 8 := rfl
      have hF : min 8 16 = 8 := rfl
      have hG : IntKind.u64.signed = false := rfl
      simp only [c2_P, c2_odd, c2_ro, c2_25, F25_eq, Nat.reduceBEq, condR_bool, wantR_bool, reduceIte, Nat.reduceEqDiff, reduceCtorEq, ne_eq, if_true, if_false, exA, tabs, exB, exD, hr, buildA, rowOr, rowSetAt, rowAgg, mkAgg, AV.isAggV, AV.parts, AV.one, AV.solid, headSize, indexAddrA, indexA, fieldAddrA, fieldA, sliceA, boundsA, bndA, lenA, arrayAtA, rowOf, makeSliceA, intsOf, copyA, Nat.reduceAdd, Nat.reduceSub, Nat.reduceMul, Nat.reduceLeDiff, Nat.reduceLT, Nat.reduceGT, Int.reduceToNat, Int.reduceLE, Int.reduceLT, Int.reduceEq, Int.reduceNe, Int.reduceAdd, Int.reduceSub, Int.reduceMul, Int.reduceNeg, ite_true, ite_false, dite_true, h1, na, Int.toNat_natCast, hh1, hh2, hh, hA, hB, hC, hD, hE, hF, hG]
      refine loopR_of (good2 0) (α := {i : Nat // i ≤ 12}) (fun i => ⟨envL [(4, .ptr 0 0 0), (8, .ptr 2 0 0), (9, .ptr 3 0 0), (10, .ptr 4 0 0), (56, .v (.int .i64 i.val))],
        [some [.arr 8 .u64 h], some [.arr 128 .u8 p], some [.arr 8 .u64 (List.replicate 8 0)], some [.arr 16 .u64 (wordsAt p 128)], some [.arr 16 .u64 (allAt (wordsAt p 128) (vInit h t true) i.val)], some [.arr 8 .u64 firstL]]⟩) (fun i => 12 - i.val) ⟨0, by omega⟩ (by kernel_rfl) ?_ ?_
      · exact weak_all ⟨rfl, rfl, rfl, rfl, rfl, trivial⟩
      · rintro ⟨r, hi⟩
        have e := @id (ordS = ByteArray.mk (List.append (List.append _ _) (List.append _ _)).toArray) rfl
        rw [← e]
        clear e
        by_cases hlt : r < 12
        · have h1 : (r : Int) < 12 := by omega
          have h2 : IntKind.i64.wrap (16 * ((r % 10 : Nat) : Int)) = ((16 * (r % 10) : Nat) : Int) := by rw [i64_id _ (by omega)]; omega
          have h3 : ((16 * (r % 10) : Nat) : Int) ≤ 160 := by omega
          have h4 : ((ordS.extract (16 * (r % 10)) 160).extract 0 16).size = 16 := by simp only [ByteArray.size_extract, ordS_size]; omega
          have h5 : (16 : Int) ≤ (((ordS.extract (16 * (r % 10)) 160).size : Nat) : Int) := by simp only [ByteArray.size_extract, ordS_size]; omega
          have hlen : (16 * (r % 10)) + 16 ≤ ordS.size := by rw [ordS_size]; omega
          have h6 : ∀ j, j < 16 → digitI ((((ordS.extract (16 * (r % 10)) 160).extract 0 16).data.toList.getD j 0).toNat : Int) = ((sigma.getD (16 * (r % 10) + j) 0 : Nat) : Int) := by
            intro j hj
            have := ext_getD ordS (16 * (r % 10)) j 16 hlen hj
            rw [ordS_size] at this
            rw [this]
            exact ordS_digit ⟨16 * (r % 10) + j, by omega⟩
          have h7 : IntKind.i64.wrap ((r : Int) + 1) = ((r + 1 : Nat) : Int) := by rw [i64_id _ (by omega)]; omega
          simp only [c2_P, c2_odd, c2_ro, Nat.reduceBEq, condR_bool, wantR_bool, reduceIte, Nat.reduceEqDiff, reduceCtorEq, ne_eq, if_true, if_false, exA, tabs, exB, exD, hr, buildA, rowOr, rowSetAt, rowAgg, mkAgg, AV.isAggV, AV.parts, AV.one, AV.solid, headSize, indexAddrA, indexA, fieldAddrA, fieldA, sliceA, boundsA, bndA, lenA, arrayAtA, rowOf, makeSliceA, intsOf, copyA, Nat.reduceAdd, Nat.reduceSub, Nat.reduceMul, Nat.reduceLeDiff, Nat.reduceLT, Nat.reduceGT, Int.reduceToNat, Int.reduceLE, Int.reduceLT, Int.reduceEq, Int.reduceNe, Int.reduceAdd, Int.reduceSub, Int.reduceMul, Int.reduceNeg, ite_true, ite_false, dite_true, h1, h2, h3, h5, na, Int.toNat_natCast, tmod10, ordS_size]
          refine loopR_of (good2 0) (α := {i : Nat // i ≤ 8}) (fun i => ⟨envL [(4, .ptr 0 0 0), (8, .ptr 2 0 0), (9, .ptr 3 0 0), (10, .ptr 4 0 0), (56, .v (.int .i64 r)), (15, .v (.string ((ordS.extract (16 * (r % 10)) 160).extract 0 16))), (64, .v (.int .i64 i.val))],
            [some [.arr 8 .u64 h], some [.arr 128 .u8 p], some [.arr 8 .u64 (List.replicate 8 0)], some [.arr 16 .u64 (wordsAt p 128)], some [.arr 16 .u64 (roundAt (wordsAt p 128) (allAt (wordsAt p 128) (vInit h t true) r) r i.val)], some [.arr 8 .u64 firstL]]⟩) (fun i => 8 - i.val) ⟨0, by omega⟩ (by kernel_rfl) ?_ ?_
          · exact weak_all ⟨rfl, rfl, rfl, rfl, rfl, rfl, rfl, trivial⟩
          · rintro ⟨k, hk⟩
            by_cases hkt : k < 8
            · have k1 : (k : Int) < 8 := by omega
              have k2 : IntKind.i64.wrap (2 * (k : Int)) = ((2 * k : Nat) : Int) := by rw [i64_id _ (by omega)]; omega
              have k3 : IntKind.i64.wrap (((2 * k : Nat) : Int) + 1) = ((2 * k + 1 : Nat) : Int) := by rw [i64_id _ (by omega)]; omega
              have k4 : ((2 * k : Nat) : Int) < 16 := by omega
              have k5 : ((2 * k + 1 : Nat) : Int) < 16 := by omega
              have k6 := h6 (2 * k) (by omega)
              have k7 := h6 (2 * k + 1) (by omega)
              have k8 : ∀ j, (((sigma.getD j 0 : Nat) : Int) < 16) = True := fun j => eq_true (by have := sigma_lt j; omega)
              have k9 : ∀ j, ((sigma.getD j 0) < 16) = True := fun j => eq_true (sigma_lt j)
              have e0 : IntKind.i64.wrap ((k / 4 : Nat) : Int) = ((k / 4 : Nat) : Int) := i64_nat _ (by omega)
              have e1 : IntKind.i64.wrap ((k : Int) + ((k / 4 : Nat) : Int)) = ((k + k / 4 : Nat) : Int) := by rw [i64_id _ (by omega)]; omega
              have e2 : IntKind.i64.wrap (4 + (((k + k / 4) % 4 : Nat) : Int)) = ((4 + (k + k / 4) % 4 : Nat) : Int) := by rw [i64_id _ (by omega)]; omega
              have e3 : IntKind.i64.wrap (2 * ((k / 4 : Nat) : Int)) = ((2 * (k / 4) : Nat) : Int) := by rw [i64_id _ (by omega)]; omega
              have e4 : IntKind.i64.wrap ((k : Int) + ((2 * (k / 4) : Nat) : Int)) = ((k + 2 * (k / 4) : Nat) : Int) := by rw [i64_id _ (by omega)]; omega
              have e5 : IntKind.i64.wrap (8 + (((k + 2 * (k / 4)) % 4 : Nat) : Int)) = ((8 + (k + 2 * (k / 4)) % 4 : Nat) : Int) := by rw [i64_id _ (by omega)]; omega
              have e6 : IntKind.i64.wrap (3 * ((k / 4 : Nat) : Int)) = ((3 * (k / 4) : Nat) : Int) := by rw [i64_id _ (by omega)]; omega
              have e7 : IntKind.i64.wrap ((k : Int) + ((3 * (k / 4) : Nat) : Int)) = ((k + 3 * (k / 4) : Nat) : Int) := by rw [i64_id _ (by omega)]; omega
              have e8 : IntKind.i64.wrap (12 + (((k + 3 * (k / 4)) % 4 : Nat) : Int)) = ((12 + (k + 3 * (k / 4)) % 4 : Nat) : Int) := by rw [i64_id _ (by omega)]; omega
              have e9 : IntKind.i64.wrap ((k : Int) + 1) = ((k + 1 : Nat) : Int) := by rw [i64_id _ (by omega)]; omega
              simp only [c2_P, c2_odd, c2_ro, c2_53, c2_54, F53_eq, Nat.reduceBEq, condR_bool, wantR_bool, reduceIte, Nat.reduceEqDiff, reduceCtorEq, ne_eq, if_true, if_false, exA, tabs, exB, exD, hr, buildA, rowOr, rowSetAt, rowAgg, mkAgg, AV.isAggV, AV.parts, AV.one, AV.solid, headSize, indexAddrA, indexA, fieldAddrA, fieldA, sliceA, boundsA, bndA, lenA, arrayAtA, rowOf, makeSliceA, intsOf, copyA, Nat.reduceAdd, Nat.reduceSub, Nat.reduceMul, Nat.reduceLeDiff, Nat.reduceLT, Nat.reduceGT, Int.reduceToNat, Int.reduceLE, Int.reduceLT, Int.reduceEq, Int.reduceNe, Int.reduceAdd, Int.reduceSub, Int.reduceMul, Int.reduceNeg, ite_true, ite_false, dite_true, h4, k1, k2, k3, k4, k5, k6, k7, k8, k9, na, Int.toNat_natCast, tmod4, tdiv4, e0, e1, e2, e3, e4, e5, e6, e7, e8]
              refine callC_frame (C := c2 0) (mix_spec (roundAt (wordsAt p 128) (allAt (wordsAt p 128) (vInit h t true) r) r k) (k % 4) (4 + (k + k / 4) % 4) (8 + (k + 2 * (k / 4)) % 4) (12 + (k + 3 * (k / 4)) % 4) ((wordsAt p 128).getD (sigma.getD (16 * (r % 10) + 2 * k) 0) 0) ((wordsAt p 128).getD (sigma.getD (16 * (r % 10) + (2 * k + 1)) 0) 0) (by omega) (by omega) (by omega) (by omega)) [4] ?_ ?_ ?_ ?_ ?_ ?_
              · rfl
              · rfl
              · decide
              · intro q hq
                simp only [List.mem_cons, List.not_mem_nil, or_false] at hq
                subst hq
                simp only [List.length_cons, List.length_nil]; omega
              · intro j hj
                match j, hj with
                | 0, _ => rfl
              · rintro _ _ ⟨rfl, rfl⟩
                simp only [c2_P, c2_odd, c2_ro, Nat.reduceBEq, condR_bool, wantR_bool, reduceIte, Nat.reduceEqDiff, reduceCtorEq, ne_eq, if_true, if_false, exA, tabs, exB, exD, hr, buildA, rowOr, rowSetAt, rowAgg, mkAgg, AV.isAggV, AV.parts, AV.one, AV.solid, headSize, indexAddrA, indexA, fieldAddrA, fieldA, sliceA, boundsA, bndA, lenA, arrayAtA, rowOf, makeSliceA, intsOf, copyA, Nat.reduceAdd, Nat.reduceSub, Nat.reduceMul, Nat.reduceLeDiff, Nat.reduceLT, Nat.reduceGT, Int.reduceToNat, Int.reduceLE, Int.reduceLT, Int.reduceEq, Int.reduceNe, Int.reduceAdd, Int.reduceSub, Int.reduceMul, Int.reduceNeg, ite_true, ite_false, dite_true, e9, overwrite, renB, renL, AV.ren]
                refine ⟨⟨k + 1, by omega⟩, by simp only; omega, weak_all ?_⟩
                exact ⟨rfl, rfl, rfl, rfl, rfl, rfl, rfl, trivial⟩
            · have k1 : ¬ (k : Int) < 8 := by omega
              have hk8 : k = 8 := by omega
              subst hk8
              simp only [c2_P, c2_odd, c2_ro, Nat.reduceBEq, condR_bool, wantR_bool, reduceIte, Nat.reduceEqDiff, reduceCtorEq, ne_eq, if_true, if_false, exA, tabs, exB, exD, hr, buildA, rowOr, rowSetAt, rowAgg, mkAgg, AV.isAggV, AV.parts, AV.one, AV.solid, headSize, indexAddrA, indexA, fieldAddrA, fieldA, sliceA, boundsA, bndA, lenA, arrayAtA, rowOf, makeSliceA, intsOf, copyA, Nat.reduceAdd, Nat.reduceSub, Nat.reduceMul, Nat.reduceLeDiff, Nat.reduceLT, Nat.reduceGT, Int.reduceToNat, Int.reduceLE, Int.reduceLT, Int.reduceEq, Int.reduceNe, Int.reduceAdd, Int.reduceSub, Int.reduceMul, Int.reduceNeg, ite_true, ite_false, dite_true, k1, h7]
              refine ⟨⟨r + 1, by omega⟩, by simp only; omega, weak_all ?_⟩
              exact ⟨rfl, rfl, rfl, rfl, rfl, trivial⟩
        · have h1 : ¬ (r : Int) < 12 := by omega
          have hi : r = 12 := by omega
          subst hi
          simp only [c2_P, c2_odd, c2_ro, Nat.reduceBEq, condR_bool, wantR_bool, reduceIte, Nat.reduceEqDiff, reduceCtorEq, ne_eq, if_true, if_false, exA, tabs, exB, exD, hr, buildA, rowOr, rowSetAt, rowAgg, mkAgg, AV.isAggV, AV.parts, AV.one, AV.solid, headSize, indexAddrA, indexA, fieldAddrA, fieldA, sliceA, boundsA, bndA, lenA, arrayAtA, rowOf, makeSliceA, intsOf, copyA, Nat.reduceAdd, Nat.reduceSub, Nat.reduceMul, Nat.reduceLeDiff, Nat.reduceLT, Nat.reduceGT, Int.reduceToNat, Int.reduceLE, Int.reduceLT, Int.reduceEq, Int.reduceNe, Int.reduceAdd, Int.reduceSub, Int.reduceMul, Int.reduceNeg, ite_true, ite_false, dite_true, h1, na, Int.toNat_natCast]
          refine loopR_of (good2 0) (α := {i : Nat // i ≤ 8}) (fun i => ⟨envL [(4, .ptr 0 0 0), (8, .ptr 2 0 0), (10, .ptr 4 0 0), (108, .v (.int .i64 i.val))],
            [some [.arr 8 .u64 (outAt h (allAt (wordsAt p 128) (vInit h t true) 12) i.val)], some [.arr 128 .u8 p], some [.arr 8 .u64 (List.replicate 8 0)], some [.arr 16 .u64 (wordsAt p 128)], some [.arr 16 .u64 (allAt (wordsAt p 128) (vInit h t true) 12)], some [.arr 8 .u64 firstL]]⟩) (fun i => 8 - i.val) ⟨0, by omega⟩ (by kernel_rfl) ?_ ?_
          · exact weak_all ⟨rfl, rfl, rfl, rfl, trivial⟩
          · rintro ⟨i, hi⟩
            by_cases hit : i < 8
            · have i1 : (i : Int) < 8 := by omega
              have i2 : IntKind.i64.wrap (8 + (i : Int)) = ((8 + i : Nat) : Int) := by rw [i64_id _ (by omega)]; omega
              have i3 : ((8 + i : Nat) : Int) < 16 := by omega
              have i4 : 8 + i < 16 := by omega
              have i5 : (i : Int) < 16 := by omega
              have i6 : i < 16 := by omega
              have i7 : IntKind.i64.wrap ((i : Int) + 1) = ((i + 1 : Nat) : Int) := by rw [i64_id _ (by omega)]; omega
              simp only [c2_P, c2_odd, c2_ro, Nat.reduceBEq, condR_bool, wantR_bool, reduceIte, Nat.reduceEqDiff, reduceCtorEq, ne_eq, if_true, if_false, exA, tabs, exB, exD, hr, buildA, rowOr, rowSetAt, rowAgg, mkAgg, AV.isAggV, AV.parts, AV.one, AV.solid, headSize, indexAddrA, indexA, fieldAddrA, fieldA, sliceA, boundsA, bndA, lenA, arrayAtA, rowOf, makeSliceA, intsOf, copyA, Nat.reduceAdd, Nat.reduceSub, Nat.reduceMul, Nat.reduceLeDiff, Nat.reduceLT, Nat.reduceGT, Int.reduceToNat, Int.reduceLE, Int.reduceLT, Int.reduceEq, Int.reduceNe, Int.reduceAdd, Int.reduceSub, Int.reduceMul, Int.reduceNeg, ite_true, ite_false, dite_true, na, Int.toNat_natCast, hit, i1, i2, i3, i4, i5, i6, i7]
              refine ⟨⟨i + 1, by omega⟩, by simp only; omega, weak_all ?_⟩
              exact ⟨rfl, rfl, rfl, rfl, trivial⟩
            · have i1 : ¬ (i : Int) < 8 := by omega
              have hi8 : i = 8 := by omega
              subst hi8
              have hlen : (outAt h (allAt (wordsAt p 128) (vInit h t true) 12) 8).length = 8 := by rw [outAt_length, hh]
              have hT : (outAt h (allAt (wordsAt p 128) (vInit h t true) 12) 8).take 8 = outAt h (allAt (wordsAt p 128) (vInit h t true) 12) 8 := List.take_of_length_le (by omega)
              simp only [c2_P, c2_odd, c2_ro, Nat.reduceBEq, condR_bool, wantR_bool, reduceIte, Nat.reduceEqDiff, reduceCtorEq, ne_eq, if_true, if_false, exA, tabs, exB, exD, hr, buildA, rowOr, rowSetAt, rowAgg, mkAgg, AV.isAggV, AV.parts, AV.one, AV.solid, headSize, indexAddrA, indexA, fieldAddrA, fieldA, sliceA, boundsA, bndA, lenA, arrayAtA, rowOf, makeSliceA, intsOf, copyA, Nat.reduceAdd, Nat.reduceSub, Nat.reduceMul, Nat.reduceLeDiff, Nat.reduceLT, Nat.reduceGT, Int.reduceToNat, Int.reduceLE, Int.reduceLT, Int.reduceEq, Int.reduceNe, Int.reduceAdd, Int.reduceSub, Int.reduceMul, Int.reduceNeg, ite_true, ite_false, dite_true, i1, hT, pieceL]
end Go.Proofs.Ytfnfmbikooeiaaa

namespace Go.Proofs.Ytfnfmbikooeiaaa
open Go.Ax
def F56 : List AV → Option AV
  | [.arr 16 .u64 v, .v (.int .i64 a), .v (.int .i64 b), .v (.int .i64 c), .v (.int .i64 d), .v (.int .u64 x), .v (.int .u64 y)] =>
    oguard (v.length = 16 ∧ (0 ≤ a ∧ a < 16) ∧ (0 ≤ b ∧ b < 16) ∧ (0 ≤ c ∧ c < 16) ∧ (0 ≤ d ∧ d < 16)) (some (.arr 16 .u64 (mixL v a.toNat b.toNat c.toNat d.toNat x y)))
  | _ => none
theorem F56_eq (v : List Int) (a b c d x y : Int) : F56 [.arr 16 .u64 v, .v (.int .i64 a), .v (.int .i64 b), .v (.int .i64 c), .v (.int .i64 d), .v (.int .u64 x), .v (.int .u64 y)] =
    oguard (v.length = 16 ∧ (0 ≤ a ∧ a < 16) ∧ (0 ≤ b ∧ b < 16) ∧ (0 ≤ c ∧ c < 16) ∧ (0 ≤ d ∧ d < 16)) (some (.arr 16 .u64 (mixL v a.toNat b.toNat c.toNat d.toNat x y))) := rfl
noncomputable def p3 : FuncId → Option (List AV → Option AV) := addPure p2 56 F56
noncomputable def c3 (k : Nat) : Cfg := ⟨Try.prog, k, p3, [], fun _ => none, none, []⟩
noncomputable def c3o (k : Nat) : Cfg := ⟨Try.prog, k, p3, [10], fun _ => none, none, []⟩
theorem c3_odd (k : Nat) : (c3 k).odd = [] := rfl
theorem c3_ro (k : Nat) : (c3 k).ro = [] := rfl
theorem c3o_odd (k : Nat) : (c3o k).odd = [10] := rfl
theorem c3o_ro (k : Nat) : (c3o k).ro = [] := rfl
theorem c3o_P (k : Nat) : (c3o k).P = Try.prog := rfl
theorem c3o_55 (k : Nat) : (c3o k).pure 55 = some F55 := rfl
theorem c3o_56 (k : Nat) : (c3o k).pure 56 = some F56 := rfl
theorem c3o_26 (k : Nat) : (c3o k).pure 26 = some F25 := rfl
theorem c3_P (k : Nat) : (c3 k).P = Try.prog := rfl
theorem c3_55 (k : Nat) : (c3 k).pure 55 = some F55 := rfl
theorem c3_56 (k : Nat) : (c3 k).pure 56 = some F56 := rfl
theorem c3_26 (k : Nat) : (c3 k).pure 26 = some F25 := rfl
theorem good3 (k : Nat) : (c3 k).Good := by
  refine Cfg.Good.add (good2 k) ?_ k
  intro args v hF h κ hκ
  unfold F56 at hF
  split at hF
  · rename_i v0 a b c d x y
    obtain ⟨⟨h0, ⟨a1, a2⟩, ⟨b1, b2⟩, ⟨c1, c2⟩, d1, d2⟩, h5⟩ := oguard_some hF
    cases h5
    obtain ⟨a, rfl⟩ := Int.eq_ofNat_of_zero_le a1
    obtain ⟨b, rfl⟩ := Int.eq_ofNat_of_zero_le b1
    obtain ⟨c, rfl⟩ := Int.eq_ofNat_of_zero_le c1
    obtain ⟨d, rfl⟩ := Int.eq_ofNat_of_zero_le d1
    exact pure_call (rmix_spec v0 a b c d x y h0 (by omega) (by omega) (by omega) (by omega)) (fun g => rfl) (fun g => rfl) h κ hκ
  · cases hF
theorem good3o (k : Nat) : (c3o k).Good := (good3 k).odd [10]
theorem rpiece_false (h p : List Int) (t : Int) (hh : h.length = 8) (hp : p.length = 128) :
    ACall Try.prog 24 [.arr 8 .u64 h, .arr 128 .u8 p, .v (.int .u64 t), .v (.bool false)] [] fun v _ => v = .arr 8 .u64 (pieceL h p t false) := by
  refine acall_run (good3o 0) Try.func24 rfl ⟨by kernel_rfl, by show 4 ≤ _; decide, by kernel_rfl, by kernel_rfl⟩ rfl ?_
  have hr : Try.f24.results.toList = [.cell 8 30] := rfl
  have na : ∀ n : Nat, (0 : Int) ≤ n := fun n => Int.natCast_nonneg n
  simp only [c3o_P, c3o_odd, c3o_ro, Nat.reduceBEq, condR_bool, wantR_bool, reduceIte, Nat.reduceEqDiff, reduceCtorEq, ne_eq, if_true, if_false, exA, tabs, exB, exD, hr, buildA, rowOr, rowSetAt, rowAgg, mkAgg, AV.isAggV, AV.parts, AV.one, AV.solid, headSize, indexAddrA, indexA, fieldAddrA, fieldA, sliceA, boundsA, bndA, lenA, arrayAtA, rowOf, makeSliceA, intsOf, copyA, Nat.reduceAdd, Nat.reduceSub, Nat.reduceMul, Nat.reduceLeDiff, Nat.reduceLT, Nat.reduceGT, Int.reduceToNat, Int.reduceLE, Int.reduceLT, Int.reduceEq, Int.reduceNe, Int.reduceAdd, Int.reduceSub, Int.reduceMul, Int.reduceNeg, ite_true, ite_false, dite_true]
  refine loopR_of (good3o 0) (α := {i : Nat // i ≤ 128}) (fun i => ⟨envL [(2, .v (.int .u64 t)), (3, .v (.bool false)), (4, .ptr 0 0 0), (5, .ptr 1 0 0), (8, .ptr 2 0 0), (9, .ptr 3 0 0), (10, .ptr 4 0 0), (11, .v (.int .i64 i.val))],
    [some [.arr 8 .u64 h], some [.arr 128 .u8 p], some [.arr 8 .u64 (List.replicate 8 0)], some [.arr 16 .u64 (wordsAt p i.val)], some [.arr 16 .u64 (List.replicate 16 0)]]⟩) (fun i => 128 - i.val) ⟨0, by omega⟩ (by kernel_rfl) ?_ ?_
  · exact weak_all ⟨rfl, rfl, rfl, rfl, rfl, rfl, rfl, rfl, trivial⟩
  · rintro ⟨i, hi⟩
    by_cases hlt : i < 128
    · have h1 : (i : Int) < 128 := by omega
      have h2 : i / 8 < 16 := by omega
      have h3 : ((i / 8 : Nat) : Int) < 16 := by omega
      have h4 : IntKind.i64.wrap (8 * ((i % 8 : Nat) : Int)) = ((8 * (i % 8) : Nat) : Int) := by rw [i64_id _ (by omega)]; omega
      have h5 : IntKind.i64.wrap ((i / 8 : Nat) : Int) = ((i / 8 : Nat) : Int) := i64_nat _ (by omega)
      have h6 : IntKind.i64.wrap ((i : Int) + 1) = ((i + 1 : Nat) : Int) := by rw [i64_id _ (by omega)]; omega
      simp only [c3o_P, c3o_odd, c3o_ro, Nat.reduceBEq, condR_bool, wantR_bool, reduceIte, Nat.reduceEqDiff, reduceCtorEq, ne_eq, if_true, if_false, exA, tabs, exB, exD, hr, buildA, rowOr, rowSetAt, rowAgg, mkAgg, AV.isAggV, AV.parts, AV.one, AV.solid, headSize, indexAddrA, indexA, fieldAddrA, fieldA, sliceA, boundsA, bndA, lenA, arrayAtA, rowOf, makeSliceA, intsOf, copyA, Nat.reduceAdd, Nat.reduceSub, Nat.reduceMul, Nat.reduceLeDiff, Nat.reduceLT, Nat.reduceGT, Int.reduceToNat, Int.reduceLE, Int.reduceLT, Int.reduceEq, Int.reduceNe, Int.reduceAdd, Int.reduceSub, Int.reduceMul, Int.reduceNeg, ite_true, ite_false, dite_true, hlt, h1, h2, h3, h4, h5, h6, na, Int.toNat_natCast, tdiv8, tmod8]
      refine ⟨⟨i + 1, by omega⟩, by simp only; omega, weak_all ?_⟩
      exact ⟨rfl, rfl, rfl, rfl, rfl, rfl, rfl, rfl, trivial⟩
    · have h1 : ¬ (i : Int) < 128 := by omega
      have hi : i = 128 := by omega
      subst hi
      have hD : firstL.take 8 = firstL := rfl
      simp only [c3o_P, c3o_odd, c3o_ro, c3o_26, F25_eq, Nat.reduceBEq, condR_bool, wantR_bool, reduceIte, Nat.reduceEqDiff, reduceCtorEq, ne_eq, if_true, if_false, exA, tabs, exB, exD, hr, buildA, rowOr, rowSetAt, rowAgg, mkAgg, AV.isAggV, AV.parts, AV.one, AV.solid, headSize, indexAddrA, indexA, fieldAddrA, fieldA, sliceA, boundsA, bndA, lenA, arrayAtA, rowOf, makeSliceA, intsOf, copyA, Nat.reduceAdd, Nat.reduceSub, Nat.reduceMul, Nat.reduceLeDiff, Nat.reduceLT, Nat.reduceGT, Int.reduceToNat, Int.reduceLE, Int.reduceLT, Int.reduceEq, Int.reduceNe, Int.reduceAdd, Int.reduceSub, Int.reduceMul, Int.reduceNeg, ite_true, ite_false, dite_true, h1, na, Int.toNat_natCast, hD]
      refine loopR_of (good3o 0) (α := {i : Nat // i ≤ 8}) (fun i => ⟨envL [(2, .v (.int .u64 t)), (3, .v (.bool false)), (4, .ptr 0 0 0), (8, .ptr 2 0 0), (9, .ptr 3 0 0), (10, .ptr 4 0 0), (12, .ptr 5 0 0), (13, .v (.int .i64 i.val))],
        [some [.arr 8 .u64 h], some [.arr 128 .u8 p], some [.arr 8 .u64 (List.replicate 8 0)], some [.arr 16 .u64 (wordsAt p 128)], some [.arr 16 .u64 (layAt h i.val)], some [.arr 8 .u64 firstL]]⟩) (fun i => 8 - i.val) ⟨0, by omega⟩ (by kernel_rfl) ?_ ?_
      · exact weak_all ⟨rfl, rfl, rfl, rfl, rfl, rfl, rfl, rfl, trivial⟩
      rintro ⟨i, hi⟩
      by_cases hit : i < 8
      · have i1 : (i : Int) < 8 := by omega
        have i2 : IntKind.i64.wrap (8 + (i : Int)) = ((8 + i : Nat) : Int) := by rw [i64_id _ (by omega)]; omega
        have i3 : ((8 + i : Nat) : Int) < 16 := by omega
        have i4 : 8 + i < 16 := by omega
        have i5 : (i : Int) < 16 := by omega
        have i6 : i < 16 := by omega
        have i7 : IntKind.i64.wrap ((i : Int) + 1) = ((i + 1 : Nat) : Int) := by rw [i64_id _ (by omega)]; omega
        simp only [c3o_P, c3o_odd, c3o_ro, Nat.reduceBEq, condR_bool, wantR_bool, reduceIte, Nat.reduceEqDiff, reduceCtorEq, ne_eq, if_true, if_false, exA, tabs, exB, exD, hr, buildA, rowOr, rowSetAt, rowAgg, mkAgg, AV.isAggV, AV.parts, AV.one, AV.solid, headSize, indexAddrA, indexA, fieldAddrA, fieldA, sliceA, boundsA, bndA, lenA, arrayAtA, rowOf, makeSliceA, intsOf, copyA, Nat.reduceAdd, Nat.reduceSub, Nat.reduceMul, Nat.reduceLeDiff, Nat.reduceLT, Nat.reduceGT, Int.reduceToNat, Int.reduceLE, Int.reduceLT, Int.reduceEq, Int.reduceNe, Int.reduceAdd, Int.reduceSub, Int.reduceMul, Int.reduceNeg, ite_true, ite_false, dite_true, i1]
        refine oddR_of (good3o 0) (.first 0 (.first 1 (.first 2 (.first 3 (.first 4 (.first 5 (.first 6 (.first 7 (.first 9 (.fork 8 (.fork 10 (.first 11 (.fork 12 .done .stop)) .stop) (.fork 10 (.first 8 (.first 11 (.fork 12 .done .stop))) .stop))))))))))) (by kernel_rfl) ?_
        simp only [c3o_P, c3o_odd, c3o_ro, Nat.reduceBEq, condR_bool, wantR_bool, reduceIte, Nat.reduceEqDiff, reduceCtorEq, ne_eq, if_true, if_false, exA, tabs, exB, exD, hr, buildA, rowOr, rowSetAt, rowAgg, mkAgg, AV.isAggV, AV.parts, AV.one, AV.solid, headSize, indexAddrA, indexA, fieldAddrA, fieldA, sliceA, boundsA, bndA, lenA, arrayAtA, rowOf, makeSliceA, intsOf, copyA, Nat.reduceAdd, Nat.reduceSub, Nat.reduceMul, Nat.reduceLeDiff, Nat.reduceLT, Nat.reduceGT, Int.reduceToNat, Int.reduceLE, Int.reduceLT, Int.reduceEq, Int.reduceNe, Int.reduceAdd, Int.reduceSub, Int.reduceMul, Int.reduceNeg, ite_true, ite_false, dite_true, na, Int.toNat_natCast, hit, i1, i2, i3, i4, i5, i6, i7]
        refine ⟨⟨i + 1, by omega⟩, by simp only; omega, weak_all ?_⟩
        exact ⟨rfl, rfl, rfl, rfl, rfl, rfl, rfl, rfl, trivial⟩
      have i1 : ¬ (i : Int) < 8 := by omega
      have hi8 : i = 8 := by omega
      subst hi8
      have hG : IntKind.u64.signed = false := rfl
      have hL := layAt_eq h hh
      simp only [c3o_P, c3o_odd, c3o_ro, Nat.reduceBEq, condR_bool, wantR_bool, reduceIte, Nat.reduceEqDiff, reduceCtorEq, ne_eq, if_true, if_false, exA, tabs, exB, exD, hr, buildA, rowOr, rowSetAt, rowAgg, mkAgg, AV.isAggV, AV.parts, AV.one, AV.solid, headSize, indexAddrA, indexA, fieldAddrA, fieldA, sliceA, boundsA, bndA, lenA, arrayAtA, rowOf, makeSliceA, intsOf, copyA, Nat.reduceAdd, Nat.reduceSub, Nat.reduceMul, Nat.reduceLeDiff, Nat.reduceLT, Nat.reduceGT, Int.reduceToNat, Int.reduceLE, Int.reduceLT, Int.reduceEq, Int.reduceNe, Int.reduceAdd, Int.reduceSub, Int.reduceMul, Int.reduceNeg, ite_true, ite_false, dite_true, i1, na, Int.toNat_natCast, hG, hL]
      refine loopR_of (good3o 0) (α := {i : Nat // i ≤ 12}) (fun i => ⟨envL [(4, .ptr 0 0 0), (8, .ptr 2 0 0), (9, .ptr 3 0 0), (10, .ptr 4 0 0), (14, .v (.int .i64 i.val))],
        [some [.arr 8 .u64 h], some [.arr 128 .u8 p], some [.arr 8 .u64 (List.replicate 8 0)], some [.arr 16 .u64 (wordsAt p 128)], some [.arr 16 .u64 (allAt (wordsAt p 128) (vInit h t false) i.val)], some [.arr 8 .u64 firstL]]⟩) (fun i => 12 - i.val) ⟨0, by omega⟩ (by kernel_rfl) ?_ ?_
      · exact weak_all ⟨rfl, rfl, rfl, rfl, rfl, trivial⟩
      · rintro ⟨r, hi⟩
        by_cases hlt : r < 12
        · have h1 : (r : Int) < 12 := by omega
          have h7 : IntKind.i64.wrap ((r : Int) + 1) = ((r + 1 : Nat) : Int) := by rw [i64_id _ (by omega)]; omega
          simp only [c3o_P, c3o_odd, c3o_ro, Nat.reduceBEq, condR_bool, wantR_bool, reduceIte, Nat.reduceEqDiff, reduceCtorEq, ne_eq, if_true, if_false, exA, tabs, exB, exD, hr, buildA, rowOr, rowSetAt, rowAgg, mkAgg, AV.isAggV, AV.parts, AV.one, AV.solid, headSize, indexAddrA, indexA, fieldAddrA, fieldA, sliceA, boundsA, bndA, lenA, arrayAtA, rowOf, makeSliceA, intsOf, copyA, Nat.reduceAdd, Nat.reduceSub, Nat.reduceMul, Nat.reduceLeDiff, Nat.reduceLT, Nat.reduceGT, Int.reduceToNat, Int.reduceLE, Int.reduceLT, Int.reduceEq, Int.reduceNe, Int.reduceAdd, Int.reduceSub, Int.reduceMul, Int.reduceNeg, ite_true, ite_false, dite_true, h1, na, Int.toNat_natCast, tmod10]
          refine loopR_of (good3o 0) (α := {i : Nat // i ≤ 8}) (fun i => ⟨envL [(4, .ptr 0 0 0), (8, .ptr 2 0 0), (9, .ptr 3 0 0), (10, .ptr 4 0 0), (14, .v (.int .i64 r)), (15, .v (.int .i64 ((r % 10 : Nat) : Int))), (16, .v (.int .i64 i.val))],
            [some [.arr 8 .u64 h], some [.arr 128 .u8 p], some [.arr 8 .u64 (List.replicate 8 0)], some [.arr 16 .u64 (wordsAt p 128)], some [.arr 16 .u64 (roundAt (wordsAt p 128) (allAt (wordsAt p 128) (vInit h t false) r) r i.val)], some [.arr 8 .u64 firstL]]⟩) (fun i => 8 - i.val) ⟨0, by omega⟩ (by kernel_rfl) ?_ ?_
          · exact weak_all ⟨rfl, rfl, rfl, rfl, rfl, rfl, rfl, trivial⟩
          · rintro ⟨k, hk⟩
            by_cases hkt : k < 8
            · have k1 : (k : Int) < 8 := by omega
              have k2 : IntKind.i64.wrap (2 * (k : Int)) = ((2 * k : Nat) : Int) := by rw [i64_id _ (by omega)]; omega
              have k3 : IntKind.i64.wrap (((2 * k : Nat) : Int) + 1) = ((2 * k + 1 : Nat) : Int) := by rw [i64_id _ (by omega)]; omega
              have k4 : ((2 * k : Nat) : Int) < 16 := by omega
              have k5 : ((2 * k + 1 : Nat) : Int) < 16 := by omega
              have k6 : ((r % 10 : Nat) : Int) < 10 := by omega
              have k8 : ∀ j, (((sigma.getD j 0 : Nat) : Int) < 16) = True := fun j => eq_true (by have := sigma_lt j; omega)
              have k9 : ∀ j, ((sigma.getD j 0) < 16) = True := fun j => eq_true (sigma_lt j)
              have e9 : IntKind.i64.wrap ((k : Int) + 1) = ((k + 1 : Nat) : Int) := by rw [i64_id _ (by omega)]; omega
              have hvl : (roundAt (wordsAt p 128) (allAt (wordsAt p 128) (vInit h t false) r) r k).length = 16 := by rw [roundAt_length, allAt_length, vInit_length h t false hh]
              have hvt : (roundAt (wordsAt p 128) (allAt (wordsAt p 128) (vInit h t false) r) r k).take 16 = roundAt (wordsAt p 128) (allAt (wordsAt p 128) (vInit h t false) r) r k := List.take_of_length_le (by omega)
              by_cases hk4 : k < 4
              · have m0 : (k : Int) < 4 := by omega
                have m1 : IntKind.i64.wrap ((k : Int) + 4) = ((k + 4 : Nat) : Int) := by rw [i64_id _ (by omega)]; omega
                have m2 : IntKind.i64.wrap ((k : Int) + 8) = ((k + 8 : Nat) : Int) := by rw [i64_id _ (by omega)]; omega
                have m3 : IntKind.i64.wrap ((k : Int) + 12) = ((k + 12 : Nat) : Int) := by rw [i64_id _ (by omega)]; omega
                have m4 : (k : Int) < 16 := by omega
                have m5 : ((k + 4 : Nat) : Int) < 16 := by omega
                have m6 : ((k + 8 : Nat) : Int) < 16 := by omega
                have m7 : ((k + 12 : Nat) : Int) < 16 := by omega
                simp only [c3o_P, c3o_odd, c3o_ro, c3o_55, c3o_56, F55_eq, F56_eq, Nat.reduceBEq, condR_bool, wantR_bool, reduceIte, Nat.reduceEqDiff, reduceCtorEq, ne_eq, if_true, if_false, exA, tabs, exB, exD, hr, buildA, rowOr, rowSetAt, rowAgg, mkAgg, AV.isAggV, AV.parts, AV.one, AV.solid, headSize, indexAddrA, indexA, fieldAddrA, fieldA, sliceA, boundsA, bndA, lenA, arrayAtA, rowOf, makeSliceA, intsOf, copyA, Nat.reduceAdd, Nat.reduceSub, Nat.reduceMul, Nat.reduceLeDiff, Nat.reduceLT, Nat.reduceGT, Int.reduceToNat, Int.reduceLE, Int.reduceLT, Int.reduceEq, Int.reduceNe, Int.reduceAdd, Int.reduceSub, Int.reduceMul, Int.reduceNeg, ite_true, ite_false, dite_true, k1, k2, k3, k4, k5, k6, k8, k9, m0, m1, m2, m3, m4, m5, m6, m7, e9, hvl, hvt, na, Int.toNat_natCast]
                refine ⟨⟨k + 1, by omega⟩, by simp only; omega, ?_⟩
                have hk0 : k / 4 = 0 := by omega
                have hs : mixL (roundAt (wordsAt p 128) (allAt (wordsAt p 128) (vInit h t false) r) r k) k (k + 4) (k + 8) (k + 12) ((wordsAt p 128).getD (sigma.getD (16 * (r % 10) + 2 * k) 0) 0) ((wordsAt p 128).getD (sigma.getD (16 * (r % 10) + (2 * k + 1)) 0) 0)
                    = roundAt (wordsAt p 128) (allAt (wordsAt p 128) (vInit h t false) r) r (k + 1) := by
                  simp only [roundAt, roundK, hk0, Nat.mul_zero, Nat.add_zero]
                  rw [show k % 4 = k from by omega, show 4 + k = k + 4 from by omega, show 8 + k = k + 8 from by omega, show 12 + k = k + 12 from by omega]
                rw [hs]
                exact weak_all ⟨rfl, rfl, rfl, rfl, rfl, rfl, rfl, trivial⟩
              · have m0 : ¬ (k : Int) < 4 := by omega
                have m1 : IntKind.i64.wrap ((k : Int) - 4) = ((k - 4 : Nat) : Int) := by rw [i64_id _ (by omega)]; omega
                have m2 : IntKind.i64.wrap ((k : Int) + 2) = ((k + 2 : Nat) : Int) := by rw [i64_id _ (by omega)]; omega
                have m3 : IntKind.i64.wrap ((k : Int) + 3) = ((k + 3 : Nat) : Int) := by rw [i64_id _ (by omega)]; omega
                have m4 : ((k - 4 : Nat) : Int) < 16 := by omega
                have n1 : IntKind.i64.wrap (4 + (((k + 1) % 4 : Nat) : Int)) = ((4 + (k + 1) % 4 : Nat) : Int) := by rw [i64_id _ (by omega)]; omega
                have n2 : IntKind.i64.wrap (8 + (((k + 2) % 4 : Nat) : Int)) = ((8 + (k + 2) % 4 : Nat) : Int) := by rw [i64_id _ (by omega)]; omega
                have n3 : IntKind.i64.wrap (12 + (((k + 3) % 4 : Nat) : Int)) = ((12 + (k + 3) % 4 : Nat) : Int) := by rw [i64_id _ (by omega)]; omega
                have m5 : ((4 + (k + 1) % 4 : Nat) : Int) < 16 := by omega
                have m6 : ((8 + (k + 2) % 4 : Nat) : Int) < 16 := by omega
                have m7 : ((12 + (k + 3) % 4 : Nat) : Int) < 16 := by omega
                simp only [c3o_P, c3o_odd, c3o_ro, c3o_55, c3o_56, F55_eq, F56_eq, Nat.reduceBEq, condR_bool, wantR_bool, reduceIte, Nat.reduceEqDiff, reduceCtorEq, ne_eq, if_true, if_false, exA, tabs, exB, exD, hr, buildA, rowOr, rowSetAt, rowAgg, mkAgg, AV.isAggV, AV.parts, AV.one, AV.solid, headSize, indexAddrA, indexA, fieldAddrA, fieldA, sliceA, boundsA, bndA, lenA, arrayAtA, rowOf, makeSliceA, intsOf, copyA, Nat.reduceAdd, Nat.reduceSub, Nat.reduceMul, Nat.reduceLeDiff, Nat.reduceLT, Nat.reduceGT, Int.reduceToNat, Int.reduceLE, Int.reduceLT, Int.reduceEq, Int.reduceNe, Int.reduceAdd, Int.reduceSub, Int.reduceMul, Int.reduceNeg, ite_true, ite_false, dite_true, k1, k2, k3, k4, k5, k6, k8, k9, m0, m1, m2, m3, m4, m5, m6, m7, n1, n2, n3, e9, hvl, hvt, na, Int.toNat_natCast, tmod4]
                refine ⟨⟨k + 1, by omega⟩, by simp only; omega, ?_⟩
                have hk0 : k / 4 = 1 := by omega
                have hs : mixL (roundAt (wordsAt p 128) (allAt (wordsAt p 128) (vInit h t false) r) r k) (k - 4) (4 + (k + 1) % 4) (8 + (k + 2) % 4) (12 + (k + 3) % 4) ((wordsAt p 128).getD (sigma.getD (16 * (r % 10) + 2 * k) 0) 0) ((wordsAt p 128).getD (sigma.getD (16 * (r % 10) + (2 * k + 1)) 0) 0)
                    = roundAt (wordsAt p 128) (allAt (wordsAt p 128) (vInit h t false) r) r (k + 1) := by
                  simp only [roundAt, roundK, hk0, Nat.mul_one]
                  rw [show k % 4 = k - 4 from by omega]
                rw [hs]
                exact weak_all ⟨rfl, rfl, rfl, rfl, rfl, rfl, rfl, trivial⟩
            · have k1 : ¬ (k : Int) < 8 := by omega
              have hk8 : k = 8 := by omega
              subst hk8
              simp only [c3o_P, c3o_odd, c3o_ro, Nat.reduceBEq, condR_bool, wantR_bool, reduceIte, Nat.reduceEqDiff, reduceCtorEq, ne_eq, if_true, if_false, exA, tabs, exB, exD, hr, buildA, rowOr, rowSetAt, rowAgg, mkAgg, AV.isAggV, AV.parts, AV.one, AV.solid, headSize, indexAddrA, indexA, fieldAddrA, fieldA, sliceA, boundsA, bndA, lenA, arrayAtA, rowOf, makeSliceA, intsOf, copyA, Nat.reduceAdd, Nat.reduceSub, Nat.reduceMul, Nat.reduceLeDiff, Nat.reduceLT, Nat.reduceGT, Int.reduceToNat, Int.reduceLE, Int.reduceLT, Int.reduceEq, Int.reduceNe, Int.reduceAdd, Int.reduceSub, Int.reduceMul, Int.reduceNeg, ite_true, ite_false, dite_true, k1, h7]
              refine ⟨⟨r + 1, by omega⟩, by simp only; omega, weak_all ?_⟩
              exact ⟨rfl, rfl, rfl, rfl, rfl, trivial⟩
        · have h1 : ¬ (r : Int) < 12 := by omega
          have hi : r = 12 := by omega
          subst hi
          simp only [c3o_P, c3o_odd, c3o_ro, Nat.reduceBEq, condR_bool, wantR_bool, reduceIte, Nat.reduceEqDiff, reduceCtorEq, ne_eq, if_true, if_false, exA, tabs, exB, exD, hr, buildA, rowOr, rowSetAt, rowAgg, mkAgg, AV.isAggV, AV.parts, AV.one, AV.solid, headSize, indexAddrA, indexA, fieldAddrA, fieldA, sliceA, boundsA, bndA, lenA, arrayAtA, rowOf, makeSliceA, intsOf, copyA, Nat.reduceAdd, Nat.reduceSub, Nat.reduceMul, Nat.reduceLeDiff, Nat.reduceLT, Nat.reduceGT, Int.reduceToNat, Int.reduceLE, Int.reduceLT, Int.reduceEq, Int.reduceNe, Int.reduceAdd, Int.reduceSub, Int.reduceMul, Int.reduceNeg, ite_true, ite_false, dite_true, h1, na, Int.toNat_natCast]
          refine loopR_of (good3o 0) (α := {i : Nat // i ≤ 8}) (fun i => ⟨envL [(4, .ptr 0 0 0), (8, .ptr 2 0 0), (10, .ptr 4 0 0), (19, .v (.int .i64 i.val))],
            [some [.arr 8 .u64 (outAt h (allAt (wordsAt p 128) (vInit h t false) 12) i.val)], some [.arr 128 .u8 p], some [.arr 8 .u64 (List.replicate 8 0)], some [.arr 16 .u64 (wordsAt p 128)], some [.arr 16 .u64 (allAt (wordsAt p 128) (vInit h t false) 12)], some [.arr 8 .u64 firstL]]⟩) (fun i => 8 - i.val) ⟨0, by omega⟩ (by kernel_rfl) ?_ ?_
          · exact weak_all ⟨rfl, rfl, rfl, rfl, trivial⟩
          · rintro ⟨i, hi⟩
            by_cases hit : i < 8
            · have i1 : (i : Int) < 8 := by omega
              have i2 : IntKind.i64.wrap (8 + (i : Int)) = ((8 + i : Nat) : Int) := by rw [i64_id _ (by omega)]; omega
              have i3 : ((8 + i : Nat) : Int) < 16 := by omega
              have i4 : 8 + i < 16 := by omega
              have i5 : (i : Int) < 16 := by omega
              have i6 : i < 16 := by omega
              have i7 : IntKind.i64.wrap ((i : Int) + 1) = ((i + 1 : Nat) : Int) := by rw [i64_id _ (by omega)]; omega
              simp only [c3o_P, c3o_odd, c3o_ro, Nat.reduceBEq, condR_bool, wantR_bool, reduceIte, Nat.reduceEqDiff, reduceCtorEq, ne_eq, if_true, if_false, exA, tabs, exB, exD, hr, buildA, rowOr, rowSetAt, rowAgg, mkAgg, AV.isAggV, AV.parts, AV.one, AV.solid, headSize, indexAddrA, indexA, fieldAddrA, fieldA, sliceA, boundsA, bndA, lenA, arrayAtA, rowOf, makeSliceA, intsOf, copyA, Nat.reduceAdd, Nat.reduceSub, Nat.reduceMul, Nat.reduceLeDiff, Nat.reduceLT, Nat.reduceGT, Int.reduceToNat, Int.reduceLE, Int.reduceLT, Int.reduceEq, Int.reduceNe, Int.reduceAdd, Int.reduceSub, Int.reduceMul, Int.reduceNeg, ite_true, ite_false, dite_true, na, Int.toNat_natCast, hit, i1, i2, i3, i4, i5, i6, i7, xorU_assoc]
              refine ⟨⟨i + 1, by omega⟩, by simp only; omega, weak_all ?_⟩
              exact ⟨rfl, rfl, rfl, rfl, trivial⟩
            · have i1 : ¬ (i : Int) < 8 := by omega
              have hi8 : i = 8 := by omega
              subst hi8
              have hlen : (outAt h (allAt (wordsAt p 128) (vInit h t false) 12) 8).length = 8 := by rw [outAt_length, hh]
              have hT : (outAt h (allAt (wordsAt p 128) (vInit h t false) 12) 8).take 8 = outAt h (allAt (wordsAt p 128) (vInit h t false) 12) 8 := List.take_of_length_le (by omega)
              simp only [c3o_P, c3o_odd, c3o_ro, Nat.reduceBEq, condR_bool, wantR_bool, reduceIte, Nat.reduceEqDiff, reduceCtorEq, ne_eq, if_true, if_false, exA, tabs, exB, exD, hr, buildA, rowOr, rowSetAt, rowAgg, mkAgg, AV.isAggV, AV.parts, AV.one, AV.solid, headSize, indexAddrA, indexA, fieldAddrA, fieldA, sliceA, boundsA, bndA, lenA, arrayAtA, rowOf, makeSliceA, intsOf, copyA, Nat.reduceAdd, Nat.reduceSub, Nat.reduceMul, Nat.reduceLeDiff, Nat.reduceLT, Nat.reduceGT, Int.reduceToNat, Int.reduceLE, Int.reduceLT, Int.reduceEq, Int.reduceNe, Int.reduceAdd, Int.reduceSub, Int.reduceMul, Int.reduceNeg, ite_true, ite_false, dite_true, i1, hT, pieceL]
theorem rpiece_true (h p : List Int) (t : Int) (hh : h.length = 8) (hp : p.length = 128) :
    ACall Try.prog 24 [.arr 8 .u64 h, .arr 128 .u8 p, .v (.int .u64 t), .v (.bool true)] [] fun v _ => v = .arr 8 .u64 (pieceL h p t true) := by
  refine acall_run (good3o 0) Try.func24 rfl ⟨by kernel_rfl, by show 4 ≤ _; decide, by kernel_rfl, by kernel_rfl⟩ rfl ?_
  have hr : Try.f24.results.toList = [.cell 8 30] := rfl
  have na : ∀ n : Nat, (0 : Int) ≤ n := fun n => Int.natCast_nonneg n
  simp only [c3o_P, c3o_odd, c3o_ro, Nat.reduceBEq, condR_bool, wantR_bool, reduceIte, Nat.reduceEqDiff, reduceCtorEq, ne_eq, if_true, if_false, exA, tabs, exB, exD, hr, buildA, rowOr, rowSetAt, rowAgg, mkAgg, AV.isAggV, AV.parts, AV.one, AV.solid, headSize, indexAddrA, indexA, fieldAddrA, fieldA, sliceA, boundsA, bndA, lenA, arrayAtA, rowOf, makeSliceA, intsOf, copyA, Nat.reduceAdd, Nat.reduceSub, Nat.reduceMul, Nat.reduceLeDiff, Nat.reduceLT, Nat.reduceGT, Int.reduceToNat, Int.reduceLE, Int.reduceLT, Int.reduceEq, Int.reduceNe, Int.reduceAdd, Int.reduceSub, Int.reduceMul, Int.reduceNeg, ite_true, ite_false, dite_true]
  refine loopR_of (good3o 0) (α := {i : Nat // i ≤ 128}) (fun i => ⟨envL [(2, .v (.int .u64 t)), (3, .v (.bool true)), (4, .ptr 0 0 0), (5, .ptr 1 0 0), (8, .ptr 2 0 0), (9, .ptr 3 0 0), (10, .ptr 4 0 0), (11, .v (.int .i64 i.val))],
    [some [.arr 8 .u64 h], some [.arr 128 .u8 p], some [.arr 8 .u64 (List.replicate 8 0)], some [.arr 16 .u64 (wordsAt p i.val)], some [.arr 16 .u64 (List.replicate 16 0)]]⟩) (fun i => 128 - i.val) ⟨0, by omega⟩ (by kernel_rfl) ?_ ?_
  · exact weak_all ⟨rfl, rfl, rfl, rfl, rfl, rfl, rfl, rfl, trivial⟩
  · rintro ⟨i, hi⟩
    by_cases hlt : i < 128
    · have h1 : (i : Int) < 128 := by omega
      have h2 : i / 8 < 16 := by omega
      have h3 : ((i / 8 : Nat) : Int) < 16 := by omega
      have h4 : IntKind.i64.wrap (8 * ((i % 8 : Nat) : Int)) = ((8 * (i % 8) : Nat) : Int) := by rw [i64_id _ (by omega)]; omega
      have h5 : IntKind.i64.wrap ((i / 8 : Nat) : Int) = ((i / 8 : Nat) : Int) := i64_nat _ (by omega)
      have h6 : IntKind.i64.wrap ((i : Int) + 1) = ((i + 1 : Nat) : Int) := by rw [i64_id _ (by omega)]; omega
      simp only [c3o_P, c3o_odd, c3o_ro, Nat.reduceBEq, condR_bool, wantR_bool, reduceIte, Nat.reduceEqDiff, reduceCtorEq, ne_eq, if_true, if_false, exA, tabs, exB, exD, hr, buildA, rowOr, rowSetAt, rowAgg, mkAgg, AV.isAggV, AV.parts, AV.one, AV.solid, headSize, indexAddrA, indexA, fieldAddrA, fieldA, sliceA, boundsA, bndA, lenA, arrayAtA, rowOf, makeSliceA, intsOf, copyA, Nat.reduceAdd, Nat.reduceSub, Nat.reduceMul, Nat.reduceLeDiff, Nat.reduceLT, Nat.reduceGT, Int.reduceToNat, Int.reduceLE, Int.reduceLT, Int.reduceEq, Int.reduceNe, Int.reduceAdd, Int.reduceSub, Int.reduceMul, Int.reduceNeg, ite_true, ite_false, dite_true, hlt, h1, h2, h3, h4, h5, h6, na, Int.toNat_natCast, tdiv8, tmod8]
      refine ⟨⟨i + 1, by omega⟩, by simp only; omega, weak_all ?_⟩
      exact ⟨rfl, rfl, rfl, rfl, rfl, rfl, rfl, rfl, trivial⟩
    · have h1 : ¬ (i : Int) < 128 := by omega
      have hi : i = 128 := by omega
      subst hi
      have hD : firstL.take 8 = firstL := rfl
      simp only [c3o_P, c3o_odd, c3o_ro, c3o_26, F25_eq, Nat.reduceBEq, condR_bool, wantR_bool, reduceIte, Nat.reduceEqDiff, reduceCtorEq, ne_eq, if_true, if_false, exA, tabs, exB, exD, hr, buildA, rowOr, rowSetAt, rowAgg, mkAgg, AV.isAggV, AV.parts, AV.one, AV.solid, headSize, indexAddrA, indexA, fieldAddrA, fieldA, sliceA, boundsA, bndA, lenA, arrayAtA, rowOf, makeSliceA, intsOf, copyA, Nat.reduceAdd, Nat.reduceSub, Nat.reduceMul, Nat.reduceLeDiff, Nat.reduceLT, Nat.reduceGT, Int.reduceToNat, Int.reduceLE, Int.reduceLT, Int.reduceEq, Int.reduceNe, Int.reduceAdd, Int.reduceSub, Int.reduceMul, Int.reduceNeg, ite_true, ite_false, dite_true, h1, na, Int.toNat_natCast, hD]
      refine loopR_of (good3o 0) (α := {i : Nat // i ≤ 8}) (fun i => ⟨envL [(2, .v (.int .u64 t)), (3, .v (.bool true)), (4, .ptr 0 0 0), (8, .ptr 2 0 0), (9, .ptr 3 0 0), (10, .ptr 4 0 0), (12, .ptr 5 0 0), (13, .v (.int .i64 i.val))],
        [some [.arr 8 .u64 h], some [.arr 128 .u8 p], some [.arr 8 .u64 (List.replicate 8 0)], some [.arr 16 .u64 (wordsAt p 128)], some [.arr 16 .u64 (layAt h i.val)], some [.arr 8 .u64 firstL]]⟩) (fun i => 8 - i.val) ⟨0, by omega⟩ (by kernel_rfl) ?_ ?_
      · exact weak_all ⟨rfl, rfl, rfl, rfl, rfl, rfl, rfl, rfl, trivial⟩
      rintro ⟨i, hi⟩
      by_cases hit : i < 8
      · have i1 : (i : Int) < 8 := by omega
        have i2 : IntKind.i64.wrap (8 + (i : Int)) = ((8 + i : Nat) : Int) := by rw [i64_id _ (by omega)]; omega
        have i3 : ((8 + i : Nat) : Int) < 16 := by omega
        have i4 : 8 + i < 16 := by omega
        have i5 : (i : Int) < 16 := by omega
        have i6 : i < 16 := by omega
        have i7 : IntKind.i64.wrap ((i : Int) + 1) = ((i + 1 : Nat) : Int) := by rw [i64_id _ (by omega)]; omega
        simp only [c3o_P, c3o_odd, c3o_ro, Nat.reduceBEq, condR_bool, wantR_bool, reduceIte, Nat.reduceEqDiff, reduceCtorEq, ne_eq, if_true, if_false, exA, tabs, exB, exD, hr, buildA, rowOr, rowSetAt, rowAgg, mkAgg, AV.isAggV, AV.parts, AV.one, AV.solid, headSize, indexAddrA, indexA, fieldAddrA, fieldA, sliceA, boundsA, bndA, lenA, arrayAtA, rowOf, makeSliceA, intsOf, copyA, Nat.reduceAdd, Nat.reduceSub, Nat.reduceMul, Nat.reduceLeDiff, Nat.reduceLT, Nat.reduceGT, Int.reduceToNat, Int.reduceLE, Int.reduceLT, Int.reduceEq, Int.reduceNe, Int.reduceAdd, Int.reduceSub, Int.reduceMul, Int.reduceNeg, ite_true, ite_false, dite_true, i1]
        refine oddR_of (good3o 0) (.first 0 (.first 1 (.first 2 (.first 3 (.first 4 (.first 5 (.first 6 (.first 7 (.first 9 (.fork 8 (.fork 10 (.first 11 (.fork 12 .done .stop)) .stop) (.fork 10 (.first 8 (.first 11 (.fork 12 .done .stop))) .stop))))))))))) (by kernel_rfl) ?_
        simp only [c3o_P, c3o_odd, c3o_ro, Nat.reduceBEq, condR_bool, wantR_bool, reduceIte, Nat.reduceEqDiff, reduceCtorEq, ne_eq, if_true, if_false, exA, tabs, exB, exD, hr, buildA, rowOr, rowSetAt, rowAgg, mkAgg, AV.isAggV, AV.parts, AV.one, AV.solid, headSize, indexAddrA, indexA, fieldAddrA, fieldA, sliceA, boundsA, bndA, lenA, arrayAtA, rowOf, makeSliceA, intsOf, copyA, Nat.reduceAdd, Nat.reduceSub, Nat.reduceMul, Nat.reduceLeDiff, Nat.reduceLT, Nat.reduceGT, Int.reduceToNat, Int.reduceLE, Int.reduceLT, Int.reduceEq, Int.reduceNe, Int.reduceAdd, Int.reduceSub, Int.reduceMul, Int.reduceNeg, ite_true, ite_false, dite_true, na, Int.toNat_natCast, hit, i1, i2, i3, i4, i5, i6, i7]
        refine ⟨⟨i + 1, by omega⟩, by simp only; omega, weak_all ?_⟩
        exact ⟨rfl, rfl, rfl, rfl, rfl, rfl, rfl, rfl, trivial⟩
      have i1 : ¬ (i : Int) < 8 := by omega
      have hi8 : i = 8 := by omega
      subst hi8
      have hG : IntKind.u64.signed = false := rfl
      have hL := layAt_eq h hh
      simp only [c3o_P, c3o_odd, c3o_ro, Nat.reduceBEq, condR_bool, wantR_bool, reduceIte, Nat.reduceEqDiff, reduceCtorEq, ne_eq, if_true, if_false, exA, tabs, exB, exD, hr, buildA, rowOr, rowSetAt, rowAgg, mkAgg, AV.isAggV, AV.parts, AV.one, AV.solid, headSize, indexAddrA, indexA, fieldAddrA, fieldA, sliceA, boundsA, bndA, lenA, arrayAtA, rowOf, makeSliceA, intsOf, copyA, Nat.reduceAdd, Nat.reduceSub, Nat.reduceMul, Nat.reduceLeDiff, Nat.reduceLT, Nat.reduceGT, Int.reduceToNat, Int.reduceLE, Int.reduceLT, Int.reduceEq, Int.reduceNe, Int.reduceAdd, Int.reduceSub, Int.reduceMul, Int.reduceNeg, ite_true, ite_false, dite_true, i1, na, Int.toNat_natCast, hG, hL]
      refine loopR_of (good3o 0) (α := {i : Nat // i ≤ 12}) (fun i => ⟨envL [(4, .ptr 0 0 0), (8, .ptr 2 0 0), (9, .ptr 3 0 0), (10, .ptr 4 0 0), (14, .v (.int .i64 i.val))],
        [some [.arr 8 .u64 h], some [.arr 128 .u8 p], some [.arr 8 .u64 (List.replicate 8 0)], some [.arr 16 .u64 (wordsAt p 128)], some [.arr 16 .u64 (allAt (wordsAt p 128) (vInit h t true) i.val)], some [.arr 8 .u64 firstL]]⟩) (fun i => 12 - i.val) ⟨0, by omega⟩ (by kernel_rfl) ?_ ?_
      · exact weak_all ⟨rfl, rfl, rfl, rfl, rfl, trivial⟩
      · rintro ⟨r, hi⟩
        by_cases hlt : r < 12
        · have h1 : (r : Int) < 12 := by omega
          have h7 : IntKind.i64.wrap ((r : Int) + 1) = ((r + 1 : Nat) : Int) := by rw [i64_id _ (by omega)]; omega
          simp only [c3o_P, c3o_odd, c3o_ro, Nat.reduceBEq, condR_bool, wantR_bool, reduceIte, Nat.reduceEqDiff, reduceCtorEq, ne_eq, if_true, if_false, exA, tabs, exB, exD, hr, buildA, rowOr, rowSetAt, rowAgg, mkAgg, AV.isAggV, AV.parts, AV.one, AV.solid, headSize, indexAddrA, indexA, fieldAddrA, fieldA, sliceA, boundsA, bndA, lenA, arrayAtA, rowOf, makeSliceA, intsOf, copyA, Nat.reduceAdd, Nat.reduceSub, Nat.reduceMul, Nat.reduceLeDiff, Nat.reduceLT, Nat.reduceGT, Int.reduceToNat, Int.reduceLE, Int.reduceLT, Int.reduceEq, Int.reduceNe, Int.reduceAdd, Int.reduceSub, Int.reduceMul, Int.reduceNeg, ite_true, ite_false, dite_true, h1, na, Int.toNat_natCast, tmod10]
          refine loopR_of (good3o 0) (α := {i : Nat // i ≤ 8}) (fun i => ⟨envL [(4, .ptr 0 0 0), (8, .ptr 2 0 0), (9, .ptr 3 0 0), (10, .ptr 4 0 0), (14, .v (.int .i64 r)), (15, .v (.int .i64 ((r % 10 : Nat) : Int))), (16, .v (.int .i64 i.val))],
            [some [.arr 8 .u64 h], some [.arr 128 .u8 p], some [.arr 8 .u64 (List.replicate 8 0)], some [.arr 16 .u64 (wordsAt p 128)], some [.arr 16 .u64 (roundAt (wordsAt p 128) (allAt (wordsAt p 128) (vInit h t true) r) r i.val)], some [.arr 8 .u64 firstL]]⟩) (fun i => 8 - i.val) ⟨0, by omega⟩ (by kernel_rfl) ?_ ?_
          · exact weak_all ⟨rfl, rfl, rfl, rfl, rfl, rfl, rfl, trivial⟩
          · rintro ⟨k, hk⟩
            by_cases hkt : k < 8
            · have k1 : (k : Int) < 8 := by omega
              have k2 : IntKind.i64.wrap (2 * (k : Int)) = ((2 * k : Nat) : Int) := by rw [i64_id _ (by omega)]; omega
              have k3 : IntKind.i64.wrap (((2 * k : Nat) : Int) + 1) = ((2 * k + 1 : Nat) : Int) := by rw [i64_id _ (by omega)]; omega
              have k4 : ((2 * k : Nat) : Int) < 16 := by omega
              have k5 : ((2 * k + 1 : Nat) : Int) < 16 := by omega
              have k6 : ((r % 10 : Nat) : Int) < 10 := by omega
              have k8 : ∀ j, (((sigma.getD j 0 : Nat) : Int) < 16) = True := fun j => eq_true (by have := sigma_lt j; omega)
              have k9 : ∀ j, ((sigma.getD j 0) < 16) = True := fun j => eq_true (sigma_lt j)
              have e9 : IntKind.i64.wrap ((k : Int) + 1) = ((k + 1 : Nat) : Int) := by rw [i64_id _ (by omega)]; omega
              have hvl : (roundAt (wordsAt p 128) (allAt (wordsAt p 128) (vInit h t true) r) r k).length = 16 := by rw [roundAt_length, allAt_length, vInit_length h t true hh]
              have hvt : (roundAt (wordsAt p 128) (allAt (wordsAt p 128) (vInit h t true) r) r k).take 16 = roundAt (wordsAt p 128) (allAt (wordsAt p 128) (vInit h t true) r) r k := List.take_of_length_le (by omega)
              by_cases hk4 : k < 4
              · have m0 : (k : Int) < 4 := by omega
                have m1 : IntKind.i64.wrap ((k : Int) + 4) = ((k + 4 : Nat) : Int) := by rw [i64_id _ (by omega)]; omega
                have m2 : IntKind.i64.wrap ((k : Int) + 8) = ((k + 8 : Nat) : Int) := by rw [i64_id _ (by omega)]; omega
                have m3 : IntKind.i64.wrap ((k : Int) + 12) = ((k + 12 : Nat) : Int) := by rw [i64_id _ (by omega)]; omega
                have m4 : (k : Int) < 16 := by omega
                have m5 : ((k + 4 : Nat) : Int) < 16 := by omega
                have m6 : ((k + 8 : Nat) : Int) < 16 := by omega
                have m7 : ((k + 12 : Nat) : Int) < 16 := by omega
                simp only [c3o_P, c3o_odd, c3o_ro, c3o_55, c3o_56, F55_eq, F56_eq, Nat.reduceBEq, condR_bool, wantR_bool, reduceIte, Nat.reduceEqDiff, reduceCtorEq, ne_eq, if_true, if_false, exA, tabs, exB, exD, hr, buildA, rowOr, rowSetAt, rowAgg, mkAgg, AV.isAggV, AV.parts, AV.one, AV.solid, headSize, indexAddrA, indexA, fieldAddrA, fieldA, sliceA, boundsA, bndA, lenA, arrayAtA, rowOf, makeSliceA, intsOf, copyA, Nat.reduceAdd, Nat.reduceSub, Nat.reduceMul, Nat.reduceLeDiff, Nat.reduceLT, Nat.reduceGT, Int.reduceToNat, Int.reduceLE, Int.reduceLT, Int.reduceEq, Int.reduceNe, Int.reduceAdd, Int.reduceSub, Int.reduceMul, Int.reduceNeg, ite_true, ite_false, dite_true, k1, k2, k3, k4, k5, k6, k8, k9, m0, m1, m2, m3, m4, m5, m6, m7, e9, hvl, hvt, na, Int.toNat_natCast]
                refine ⟨⟨k + 1, by omega⟩, by simp only; omega, ?_⟩
                have hk0 : k / 4 = 0 := by omega
                have hs : mixL (roundAt (wordsAt p 128) (allAt (wordsAt p 128) (vInit h t true) r) r k) k (k + 4) (k + 8) (k + 12) ((wordsAt p 128).getD (sigma.getD (16 * (r % 10) + 2 * k) 0) 0) ((wordsAt p 128).getD (sigma.getD (16 * (r % 10) + (2 * k + 1)) 0) 0)
                    = roundAt (wordsAt p 128) (allAt (wordsAt p 128) (vInit h t true) r) r (k + 1) := by
                  simp only [roundAt, roundK, hk0, Nat.mul_zero, Nat.add_zero]
                  rw [show k % 4 = k from by omega, show 4 + k = k + 4 from by omega, show 8 + k = k + 8 from by omega, show 12 + k = k + 12 from by omega]
                rw [hs]
                exact weak_all ⟨rfl, rfl, rfl, rfl, rfl, rfl, rfl, trivial⟩
              · have m0 : ¬ (k : Int) < 4 := by omega
                have m1 : IntKind.i64.wrap ((k : Int) - 4) = ((k - 4 : Nat) : Int) := by rw [i64_id _ (by omega)]; omega
                have m2 : IntKind.i64.wrap ((k : Int) + 2) = ((k + 2 : Nat) : Int) := by rw [i64_id _ (by omega)]; omega
                have m3 : IntKind.i64.wrap ((k : Int) + 3) = ((k + 3 : Nat) : Int) := by rw [i64_id _ (by omega)]; omega
                have m4 : ((k - 4 : Nat) : Int) < 16 := by omega
                have n1 : IntKind.i64.wrap (4 + (((k + 1) % 4 : Nat) : Int)) = ((4 + (k + 1) % 4 : Nat) : Int) := by rw [i64_id _ (by omega)]; omega
                have n2 : IntKind.i64.wrap (8 + (((k + 2) % 4 : Nat) : Int)) = ((8 + (k + 2) % 4 : Nat) : Int) := by rw [i64_id _ (by omega)]; omega
                have n3 : IntKind.i64.wrap (12 + (((k + 3) % 4 : Nat) : Int)) = ((12 + (k + 3) % 4 : Nat) : Int) := by rw [i64_id _ (by omega)]; omega
                have m5 : ((4 + (k + 1) % 4 : Nat) : Int) < 16 := by omega
                have m6 : ((8 + (k + 2) % 4 : Nat) : Int) < 16 := by omega
                have m7 : ((12 + (k + 3) % 4 : Nat) : Int) < 16 := by omega
                simp only [c3o_P, c3o_odd, c3o_ro, c3o_55, c3o_56, F55_eq, F56_eq, Nat.reduceBEq, condR_bool, wantR_bool, reduceIte, Nat.reduceEqDiff, reduceCtorEq, ne_eq, if_true, if_false, exA, tabs, exB, exD, hr, buildA, rowOr, rowSetAt, rowAgg, mkAgg, AV.isAggV, AV.parts, AV.one, AV.solid, headSize, indexAddrA, indexA, fieldAddrA, fieldA, sliceA, boundsA, bndA, lenA, arrayAtA, rowOf, makeSliceA, intsOf, copyA, Nat.reduceAdd, Nat.reduceSub, Nat.reduceMul, Nat.reduceLeDiff, Nat.reduceLT, Nat.reduceGT, Int.reduceToNat, Int.reduceLE, Int.reduceLT, Int.reduceEq, Int.reduceNe, Int.reduceAdd, Int.reduceSub, Int.reduceMul, Int.reduceNeg, ite_true, ite_false, dite_true, k1, k2, k3, k4, k5, k6, k8, k9, m0, m1, m2, m3, m4, m5, m6, m7, n1, n2, n3, e9, hvl, hvt, na, Int.toNat_natCast, tmod4]
                refine ⟨⟨k + 1, by omega⟩, by simp only; omega, ?_⟩
                have hk0 : k / 4 = 1 := by omega
                have hs : mixL (roundAt (wordsAt p 128) (allAt (wordsAt p 128) (vInit h t true) r) r k) (k - 4) (4 + (k + 1) % 4) (8 + (k + 2) % 4) (12 + (k + 3) % 4) ((wordsAt p 128).getD (sigma.getD (16 * (r % 10) + 2 * k) 0) 0) ((wordsAt p 128).getD (sigma.getD (16 * (r % 10) + (2 * k + 1)) 0) 0)
                    = roundAt (wordsAt p 128) (allAt (wordsAt p 128) (vInit h t true) r) r (k + 1) := by
                  simp only [roundAt, roundK, hk0, Nat.mul_one]
                  rw [show k % 4 = k - 4 from by omega]
                rw [hs]
                exact weak_all ⟨rfl, rfl, rfl, rfl, rfl, rfl, rfl, trivial⟩
            · have k1 : ¬ (k : Int) < 8 := by omega
              have hk8 : k = 8 := by omega
              subst hk8
              simp only [c3o_P, c3o_odd, c3o_ro, Nat.reduceBEq, condR_bool, wantR_bool, reduceIte, Nat.reduceEqDiff, reduceCtorEq, ne_eq, if_true, if_false, exA, tabs, exB, exD, hr, buildA, rowOr, rowSetAt, rowAgg, mkAgg, AV.isAggV, AV.parts, AV.one, AV.solid, headSize, indexAddrA, indexA, fieldAddrA, fieldA, sliceA, boundsA, bndA, lenA, arrayAtA, rowOf, makeSliceA, intsOf, copyA, Nat.reduceAdd, Nat.reduceSub, Nat.reduceMul, Nat.reduceLeDiff, Nat.reduceLT, Nat.reduceGT, Int.reduceToNat, Int.reduceLE, Int.reduceLT, Int.reduceEq, Int.reduceNe, Int.reduceAdd, Int.reduceSub, Int.reduceMul, Int.reduceNeg, ite_true, ite_false, dite_true, k1, h7]
              refine ⟨⟨r + 1, by omega⟩, by simp only; omega, weak_all ?_⟩
              exact ⟨rfl, rfl, rfl, rfl, rfl, trivial⟩
        · have h1 : ¬ (r : Int) < 12 := by omega
          have hi : r = 12 := by omega
          subst hi
          simp only [c3o_P, c3o_odd, c3o_ro, Nat.reduceBEq, condR_bool, wantR_bool, reduceIte, Nat.reduceEqDiff, reduceCtorEq, ne_eq, if_true, if_false, exA, tabs, exB, exD, hr, buildA, rowOr, rowSetAt, rowAgg, mkAgg, AV.isAggV, AV.parts, AV.one, AV.solid, headSize, indexAddrA, indexA, fieldAddrA, fieldA, sliceA, boundsA, bndA, lenA, arrayAtA, rowOf, makeSliceA, intsOf, copyA, Nat.reduceAdd, Nat.reduceSub, Nat.reduceMul, Nat.reduceLeDiff, Nat.reduceLT, Nat.reduceGT, Int.reduceToNat, Int.reduceLE, Int.reduceLT, Int.reduceEq, Int.reduceNe, Int.reduceAdd, Int.reduceSub, Int.reduceMul, Int.reduceNeg, ite_true, ite_false, dite_true, h1, na, Int.toNat_natCast]
          refine loopR_of (good3o 0) (α := {i : Nat // i ≤ 8}) (fun i => ⟨envL [(4, .ptr 0 0 0), (8, .ptr 2 0 0), (10, .ptr 4 0 0), (19, .v (.int .i64 i.val))],
            [some [.arr 8 .u64 (outAt h (allAt (wordsAt p 128) (vInit h t true) 12) i.val)], some [.arr 128 .u8 p], some [.arr 8 .u64 (List.replicate 8 0)], some [.arr 16 .u64 (wordsAt p 128)], some [.arr 16 .u64 (allAt (wordsAt p 128) (vInit h t true) 12)], some [.arr 8 .u64 firstL]]⟩) (fun i => 8 - i.val) ⟨0, by omega⟩ (by kernel_rfl) ?_ ?_
          · exact weak_all ⟨rfl, rfl, rfl, rfl, trivial⟩
          · rintro ⟨i, hi⟩
            by_cases hit : i < 8
            · have i1 : (i : Int) < 8 := by omega
              have i2 : IntKind.i64.wrap (8 + (i : Int)) = ((8 + i : Nat) : Int) := by rw [i64_id _ (by omega)]; omega
              have i3 : ((8 + i : Nat) : Int) < 16 := by omega
              have i4 : 8 + i < 16 := by omega
              have i5 : (i : Int) < 16 := by omega
              have i6 : i < 16 := by omega
              have i7 : IntKind.i64.wrap ((i : Int) + 1) = ((i + 1 : Nat) : Int) := by rw [i64_id _ (by omega)]; omega
              simp only [c3o_P, c3o_odd, c3o_ro, Nat.reduceBEq, condR_bool, wantR_bool, reduceIte, Nat.reduceEqDiff, reduceCtorEq, ne_eq, if_true, if_false, exA, tabs, exB, exD, hr, buildA, rowOr, rowSetAt, rowAgg, mkAgg, AV.isAggV, AV.parts, AV.one, AV.solid, headSize, indexAddrA, indexA, fieldAddrA, fieldA, sliceA, boundsA, bndA, lenA, arrayAtA, rowOf, makeSliceA, intsOf, copyA, Nat.reduceAdd, Nat.reduceSub, Nat.reduceMul, Nat.reduceLeDiff, Nat.reduceLT, Nat.reduceGT, Int.reduceToNat, Int.reduceLE, Int.reduceLT, Int.reduceEq, Int.reduceNe, Int.reduceAdd, Int.reduceSub, Int.reduceMul, Int.reduceNeg, ite_true, ite_false, dite_true, na, Int.toNat_natCast, hit, i1, i2, i3, i4, i5, i6, i7, xorU_assoc]
              refine ⟨⟨i + 1, by omega⟩, by simp only; omega, weak_all ?_⟩
              exact ⟨rfl, rfl, rfl, rfl, trivial⟩
            · have i1 : ¬ (i : Int) < 8 := by omega
              have hi8 : i = 8 := by omega
              subst hi8
              have hlen : (outAt h (allAt (wordsAt p 128) (vInit h t true) 12) 8).length = 8 := by rw [outAt_length, hh]
              have hT : (outAt h (allAt (wordsAt p 128) (vInit h t true) 12) 8).take 8 = outAt h (allAt (wordsAt p 128) (vInit h t true) 12) 8 := List.take_of_length_le (by omega)
              simp only [c3o_P, c3o_odd, c3o_ro, Nat.reduceBEq, condR_bool, wantR_bool, reduceIte, Nat.reduceEqDiff, reduceCtorEq, ne_eq, if_true, if_false, exA, tabs, exB, exD, hr, buildA, rowOr, rowSetAt, rowAgg, mkAgg, AV.isAggV, AV.parts, AV.one, AV.solid, headSize, indexAddrA, indexA, fieldAddrA, fieldA, sliceA, boundsA, bndA, lenA, arrayAtA, rowOf, makeSliceA, intsOf, copyA, Nat.reduceAdd, Nat.reduceSub, Nat.reduceMul, Nat.reduceLeDiff, Nat.reduceLT, Nat.reduceGT, Int.reduceToNat, Int.reduceLE, Int.reduceLT, Int.reduceEq, Int.reduceNe, Int.reduceAdd, Int.reduceSub, Int.reduceMul, Int.reduceNeg, ite_true, ite_false, dite_true, i1, hT, pieceL]
end Go.Proofs.Ytfnfmbikooeiaaa

namespace Go.Proofs.Ytfnfmbikooeiaaa
open Go.Ax
def F23 : List AV → Option AV
  | [.arr 8 .u64 h, .arr 128 .u8 p, .v (.int .u64 t), .v (.bool last)] => oguard (h.length = 8 ∧ p.length = 128) (some (.arr 8 .u64 (pieceL h p t last)))
  | _ => none
theorem F23_eq (h p : List Int) (t : Int) (last : Bool) : F23 [.arr 8 .u64 h, .arr 128 .u8 p, .v (.int .u64 t), .v (.bool last)] = oguard (h.length = 8 ∧ p.length = 128) (some (.arr 8 .u64 (pieceL h p t last))) := rfl
noncomputable def p4 : FuncId → Option (List AV → Option AV) := addPure (addPure p3 23 F23) 24 F23
noncomputable def c4 (k : Nat) : Cfg := ⟨Try.prog, k, p4, [], fun _ => none, none, []⟩
theorem c4_odd (k : Nat) : (c4 k).odd = [] := rfl
theorem c4_ro (k : Nat) : (c4 k).ro = [] := rfl
theorem c4_P (k : Nat) : (c4 k).P = Try.prog := rfl
theorem c4_pure (k : Nat) : (c4 k).pure = p4 := rfl
theorem c4_news (k : Nat) : (c4 k).news = fun _ => none := rfl
theorem exR : Try.f3.results.toList = [.tmp 8] ∧ Try.f4.results.toList = [.tmp 8] ∧ Try.f5.results.toList = [.tmp 4] ∧ Try.f6.results.toList = [.tmp 4] ∧ Try.f7.results.toList = [.tmp 6] ∧ Try.f8.results.toList = [.tmp 2] ∧ Try.f9.results.toList = [.tmp 6] ∧ Try.f10.results.toList = [.tmp 4] ∧ Try.f11.results.toList = [.tmp 4] ∧ Try.f12.results.toList = [.tmp 6] ∧ Try.f13.results.toList = [.tmp 4] ∧ Try.f14.results.toList = [.tmp 6] ∧ Try.f15.results.toList = [.tmp 2] ∧ Try.f16.results.toList = [.tmp 6] ∧ Try.f17.results.toList = [.tmp 6] ∧ Try.f18.results.toList = [.tmp 4] ∧ Try.f19.results.toList = [.tmp 6] ∧ Try.f20.results.toList = [.tmp 6, .tmp 7] ∧ Try.f21.results.toList = [.tmp 6, .tmp 7] ∧ Try.f22.results.toList = [.tmp 0] ∧ Try.f27.results.toList = [.tmp 4, .tmp 5] ∧ Try.f28.results.toList = [.tmp 2] ∧ Try.f29.results.toList = [] ∧ Try.f30.results.toList = [.tmp 2] ∧ Try.f31.results.toList = [.tmp 4, .tmp 5] ∧ Try.f32.results.toList = [.tmp 4, .tmp 5] ∧ Try.f33.results.toList = [.tmp 0] ∧ Try.f34.results.toList = [.tmp 4] ∧ Try.f35.results.toList = [.tmp 4] ∧ Try.f36.results.toList = [.tmp 2] ∧ Try.f37.results.toList = [.cell 2 53, .tmp 3] ∧ Try.f38.results.toList = [.cell 2 53, .tmp 3] ∧ Try.f39.results.toList = [.tmp 2] ∧ Try.f40.results.toList = [.cell 4 53] ∧ Try.f41.results.toList = [.cell 4 53] ∧ Try.f42.results.toList = [.cell 2 60] ∧ Try.f43.results.toList = [.cell 2 60] ∧ Try.f44.results.toList = [.tmp 6, .tmp 7] ∧ Try.f45.results.toList = [.tmp 6, .tmp 7] ∧ Try.f46.results.toList = [.tmp 0] ∧ Try.f47.results.toList = [.tmp 2] ∧ Try.f48.results.toList = [.tmp 2] ∧ Try.f49.results.toList = [.tmp 2] ∧ Try.f50.results.toList = [.tmp 2] ∧ Try.f51.results.toList = [.tmp 6, .tmp 7] ∧ Try.f52.results.toList = [.tmp 6, .tmp 7] ∧ Try.f57.results.toList = [.tmp 2] ∧ Try.f58.results.toList = [.tmp 2] ∧ Try.f59.results.toList = [.tmp 4] ∧ Try.f60.results.toList = [] ∧ Try.f61.results.toList = [.cell 10 60] ∧ Try.f62.results.toList = [.tmp 4] ∧ Try.f63.results.toList = [] ∧ Try.f64.results.toList = [] ∧ Try.f65.results.toList = [.tmp 4] ∧ Try.f66.results.toList = [.tmp 6] ∧ Try.f67.results.toList = [.tmp 2] ∧ Try.f68.results.toList = [.tmp 6] ∧ Try.f69.results.toList = [.tmp 2] ∧ Try.f73.results.toList = [] ∧ Try.f74.results.toList = [.tmp 4] ∧ Try.f75.results.toList = [.tmp 4] ∧ Try.f76.results.toList = [.cell 4 53] ∧ Try.f77.results.toList = [.cell 6 53] ∧ Try.f78.results.toList = [.tmp 4] ∧ Try.f79.results.toList = [.tmp 4] ∧ Try.f81.results.toList = [] ∧ Try.f82.results.toList = [.tmp 2] := ⟨rfl, rfl, rfl, rfl, rfl, rfl, rfl, rfl, rfl, rfl, rfl, rfl, rfl, rfl, rfl, rfl, rfl, rfl, rfl, rfl, rfl, rfl, rfl, rfl, rfl, rfl, rfl, rfl, rfl, rfl, rfl, rfl, rfl, rfl, rfl, rfl, rfl, rfl, rfl, rfl, rfl, rfl, rfl, rfl, rfl, rfl, rfl, rfl, rfl, rfl, rfl, rfl, rfl, rfl, rfl, rfl, rfl, rfl, rfl, rfl, rfl, rfl, rfl, rfl, rfl, rfl, rfl, rfl⟩
theorem go4 {F A B : Prop} (f : F) (b : B) (h : F → A = B := by intro f; (repeat (first | simp only [c4_P, c4_odd, c4_ro, Nat.reduceBEq, reduceIte, Nat.reduceEqDiff, reduceCtorEq, ne_eq, if_true, if_false, exA, exA, tabs, exB, exD, buildA, rowOr, rowSetAt, rowAgg, mkAgg, AV.isAggV, AV.parts, AV.one, AV.solid, headSize, indexAddrA, indexA, fieldAddrA, fieldA, sliceA, boundsA, bndA, lenA, arrayAtA, rowOf, makeSliceA, intsOf, copyA, Nat.reduceAdd, Nat.reduceSub, Nat.reduceMul, Nat.reduceLeDiff, Nat.reduceLT, Nat.reduceGT, Int.reduceToNat, Int.reduceLE, Int.reduceLT, Int.reduceEq, Int.reduceNe, Int.reduceAdd, Int.reduceSub, Int.reduceMul, Int.reduceNeg, ite_true, ite_false, dite_true, c4_pure, c4_news, p4, p3, p2, p1, F80_eq, F70_eq, F53_eq, F55_eq, F25_eq, F56_eq, F23_eq, exR, f] | simp (maxSteps := 1000000) (disch := omega) only [exE, Int.toNat_natCast, Int.reduceToNat])); all_goals rfl) : A := Eq.mpr (h f) b
theorem c4_23 (k : Nat) : (c4 k).pure 23 = some F23 := rfl
theorem c4_24 (k : Nat) : (c4 k).pure 24 = some F23 := rfl
theorem c4_25 (k : Nat) : (c4 k).pure 25 = some F25 := rfl
theorem c4_26 (k : Nat) : (c4 k).pure 26 = some F25 := rfl
theorem good4 (k : Nat) : (c4 k).Good := by
  refine Cfg.Good.add (Cfg.Good.add (good3 k) ?_ k) ?_ k
  all_goals
    intro args v hF h κ hκ
    unfold F23 at hF
    split at hF
    · rename_i h0 p t last
      obtain ⟨⟨h1, h2⟩, h5⟩ := oguard_some hF
      cases h5
      cases last
      · first | exact pure_call (piece_false h0 p t h1 h2) (fun g => rfl) (fun g => rfl) h κ hκ | exact pure_call (rpiece_false h0 p t h1 h2) (fun g => rfl) (fun g => rfl) h κ hκ
      · first | exact pure_call (piece_true h0 p t h1 h2) (fun g => rfl) (fun g => rfl) h κ hκ | exact pure_call (rpiece_true h0 p t h1 h2) (fun g => rfl) (fun g => rfl) h κ hκ
    · cases hF
end Go.Proofs.Ytfnfmbikooeiaaa

namespace Go.Proofs.Ytfnfmbikooeiaaa
open Go.Ax
theorem hsum_spec (h r : List Int) (size c : Nat) (t : Int) (hh : h.length = 8) (hs : 0 < size ∧ size ≤ 64) (hrl : r.length ≤ 128) :
    ACall Try.prog 30 [.ptr 0 0 0] [some [.arr 8 .u64 h, .v (.int .i64 size), .sl 1 0 1 0 r.length c, .v (.int .u64 t)], some [.arr r.length .u8 r]]
      fun v h' => v = .sl 2 0 1 0 size size ∧ h' = [some [.arr 8 .u64 h, .v (.int .i64 size), .sl 1 0 1 0 r.length c, .v (.int .u64 t)], some [.arr r.length .u8 r],
        some [.arr size .u8 ((List.range size).map (byteAt (pieceL h (padL r) (IntKind.u64.wrap (t + r.length)) true)))]] := by
  refine ACall.weak (C := c4 2) rfl (κ := fun v h' => v = .sl 4 0 1 0 size size ∧ ∃ x y, h' = [some [.arr 8 .u64 h, .v (.int .i64 size), .sl 1 0 1 0 r.length c, .v (.int .u64 t)], some [.arr r.length .u8 r], x, y,
        some [.arr size .u8 ((List.range size).map (byteAt (pieceL h (padL r) (IntKind.u64.wrap (t + r.length)) true)))]]) ?_ ?_
  · refine bd (good4 2) Try.func30 ?_
    have hp : (padL r).length = 128 := by simp [padL, hrl]
    have hpad : r ++ List.drop (min r.length 128) (List.replicate 128 (0 : Int)) = padL r := by rw [Nat.min_eq_left hrl, List.drop_replicate]; rfl
    repeat (first | simp only [c4_P, c4_odd, c4_ro, Nat.reduceBEq, reduceIte, Nat.reduceEqDiff, reduceCtorEq, ne_eq, if_true, if_false, exA, exA, tabs, exB, exD, buildA, rowOr, rowSetAt, rowAgg, mkAgg, AV.isAggV, AV.parts, AV.one, AV.solid, headSize, indexAddrA, indexA, fieldAddrA, fieldA, sliceA, boundsA, bndA, lenA, arrayAtA, rowOf, makeSliceA, intsOf, copyA, Nat.reduceAdd, Nat.reduceSub, Nat.reduceMul, Nat.reduceLeDiff, Nat.reduceLT, Nat.reduceGT, Int.reduceToNat, Int.reduceLE, Int.reduceLT, Int.reduceEq, Int.reduceNe, Int.reduceAdd, Int.reduceSub, Int.reduceMul, Int.reduceNeg, ite_true, ite_false, dite_true, c4_pure, c4_news, p4, p3, p2, p1, F80_eq, F70_eq, F53_eq, F55_eq, F25_eq, F56_eq, F23_eq, exR, c4_23, hh, hpad] | simp (maxSteps := 1000000) (disch := omega) only [exE, Int.toNat_natCast, Int.reduceToNat, hh])
    repeat with_reducible refine gd ?_
    refine loop_count (good4 2) (fun i => ⟨envL [(4, .ptr 3 0 0), (5, .sl 4 0 1 0 size size), (45, .v (.int .i64 size)), (46, .v (.int .i64 i))],
      [some [.arr 8 .u64 h, .v (.int .i64 size), .sl 1 0 1 0 r.length c, .v (.int .u64 t)], some [.arr r.length .u8 r], some [.arr 128 .u8 (padL r)], some [.arr 8 .u64 (pieceL h (padL r) (IntKind.u64.wrap (t + r.length)) true)],
       some [.arr size .u8 (fillAt (byteAt (pieceL h (padL r) (IntKind.u64.wrap (t + r.length)) true)) (List.replicate size 0) i)]]⟩) size (by kernel_rfl) ?_ ?_ ?_
    · (refine weak_of ?_ ?_; (focus (first | with_reducible rfl | (simp only [fillAt] <;> with_reducible rfl))); simp only [exF, Nat.reduceEqDiff, if_true, if_false, reduceIte, Option.some.injEq, reduceCtorEq, Int.cast_ofNat_Int, fillAt])
    · intro i hi
      refine go4 nf ?_
      repeat with_reducible refine gd ?_
      (refine weak_of ?_ ?_; (focus (first | with_reducible rfl | (simp only [fillAt, byteAt] <;> with_reducible rfl))); simp only [exF, Nat.reduceEqDiff, if_true, if_false, reduceIte, Option.some.injEq, reduceCtorEq, Int.cast_ofNat_Int, fillAt, byteAt])
    · refine go4 nf ?_
      rw [fillAt_all _ _ _ (by simp)]
      exact ⟨_, _, rfl⟩
  · rintro v h' ⟨rfl, x, y, rfl⟩
    exact ⟨_, _, weak_gc' [0, 1, 4] (by decide) (by simp) (by rfl) rfl ⟨rfl, trivial⟩, rfl, rfl⟩
end Go.Proofs.Ytfnfmbikooeiaaa

namespace Go.Proofs.Ytfnfmbikooeiaaa
open Go.Ax
theorem clone_spec (l : List Int) (hl : l.length ≤ 140737488355328) :
    ACall Try.prog 57 [.roI .u8 l] [] fun v h' => ∃ c, v = .sl 0 0 1 0 l.length c ∧ h' = [some [.arr l.length .u8 l]] := by
  refine ACall.weak (C := c4 0) rfl (κ := fun v h' => (v = .v (.slice none 0 0) ∧ h' = [] ∧ l = []) ∨ ∃ c, v = .sl 1 0 1 0 l.length c ∧ h' = [none, some [.arr l.length .u8 l]]) ?_ ?_
  · refine bd (good4 0) Try.func57 ?_
    refine go4 nf ?_
    intro t ht
    cases t
    · refine go4 nf ?_
      exact fun c _ => .inr ⟨c, rfl⟩
    · have := ht rfl
      refine go4 nf ?_
      exact .inl (List.eq_nil_of_length_eq_zero this)
  · rintro v h' (⟨rfl, rfl, rfl⟩ | ⟨c, rfl, rfl⟩)
    · exact ⟨_, _, weak_nil_slot 0 .u8 rfl (fun j => by cases j <;> rfl), 0, rfl, rfl⟩
    · exact ⟨_, _, weak_gc' [1] (by decide) (by simp) (by rfl) rfl ⟨rfl, trivial⟩, c, rfl, rfl⟩
def N57 (h : List Blk) : List AV → Option Out
  | [x] => (u8Of h x).bind fun l => oguard (l.length ≤ 140737488355328) (some (.cap 0 fun c => (.sl h.length 0 1 0 l.length c, h ++ [some [.arr l.length .u8 l]])))
  | _ => none
theorem N57_eq (h : List Blk) (x : AV) : N57 h [x] = (u8Of h x).bind fun l => oguard (l.length ≤ 140737488355328) (some (.cap 0 fun c => (.sl h.length 0 1 0 l.length c, h ++ [some [.arr l.length .u8 l]]))) := rfl
noncomputable def n5 : FuncId → Option (List Blk → List AV → Option Out) := addNews (fun _ => none) 57 N57
noncomputable def c5 (k : Nat) : Cfg := ⟨Try.prog, k, p4, [], n5, none, []⟩
theorem c5_odd (k : Nat) : (c5 k).odd = [] := rfl
theorem c5_ro (k : Nat) : (c5 k).ro = [] := rfl
theorem c5_P (k : Nat) : (c5 k).P = Try.prog := rfl
theorem c5_pure (k : Nat) : (c5 k).pure = p4 := rfl
theorem c5_news (k : Nat) : (c5 k).news = n5 := rfl
theorem go5 {F A B : Prop} (f : F) (b : B) (h : F → A = B := by intro f; (repeat (first | simp only [c5_P, c5_odd, c5_ro, Nat.reduceBEq, reduceIte, Nat.reduceEqDiff, reduceCtorEq, ne_eq, if_true, if_false, exA, exA, tabs, exB, exD, buildA, rowOr, rowSetAt, rowAgg, mkAgg, AV.isAggV, AV.parts, AV.one, AV.solid, headSize, indexAddrA, indexA, fieldAddrA, fieldA, sliceA, boundsA, bndA, lenA, arrayAtA, rowOf, makeSliceA, intsOf, copyA, Nat.reduceAdd, Nat.reduceSub, Nat.reduceMul, Nat.reduceLeDiff, Nat.reduceLT, Nat.reduceGT, Int.reduceToNat, Int.reduceLE, Int.reduceLT, Int.reduceEq, Int.reduceNe, Int.reduceAdd, Int.reduceSub, Int.reduceMul, Int.reduceNeg, ite_true, ite_false, dite_true, c5_pure, c5_news, p4, p3, p2, p1, F80_eq, F70_eq, F53_eq, F55_eq, F25_eq, F56_eq, F23_eq, n5, N57_eq, exR, f] | simp (maxSteps := 1000000) (disch := omega) only [exE, Int.toNat_natCast, Int.reduceToNat])); all_goals rfl) : A := Eq.mpr (h f) b
theorem good5 (k : Nat) : (c5 k).Good := by
  refine Cfg.Good.addN (good4 k) ?_ k
  intro h args out hN
  unfold N57 at hN
  split at hN
  · rename_i x
    obtain ⟨l, hl, hN⟩ := Option.bind_eq_some_iff.1 hN
    obtain ⟨h1, hN⟩ := oguard_some hN
    cases hN
    refine ⟨fun c _ => ⟨_, rfl⟩, fun κ hκ => news_ok (args := [x]) (clone_spec l h1) (by rintro _ _ ⟨c, rfl, rfl⟩; exact ⟨rfl, rfl⟩) (fun g => rfl) ⟨u8Of_frz hl, trivial⟩ ?_ hκ⟩
    rintro _ _ ⟨c, rfl, rfl⟩
    exact ⟨c, Nat.zero_le _, rfl⟩
  · cases hN
theorem new_bad (n : Int) (key : List Int) (hk : key.length ≤ 140737488355328) (hb : n < 1 ∨ 64 < n ∨ 64 < key.length) :
    ACall Try.prog 27 [.v (.int .i64 n), .roI .u8 key] [] fun v h' => v = .tup [.v (.pointer none), .v (.int .i64 1)] ∧ h' = [] := by
  refine bd (good5 0) Try.func27 ?_
  refine go5 nf ?_
  by_cases h1 : n < 1
  · exact go5 nf trivial
  · by_cases h2 : 64 < n
    · exact go5 nf trivial
    · exact go5 nf trivial
theorem new_key (n : Nat) (key : List Int) (hk : 0 < key.length ∧ key.length ≤ 64) (hb : 1 ≤ n ∧ n ≤ 64) :
    ACall Try.prog 27 [.v (.int .i64 n), .roI .u8 key] [] fun v h' => v = .tup [.ptr 0 0 0, .v (.int .i64 0)] ∧ ∃ c,
      h' = [some [.arr 8 .u64 (paramL n key), .v (.int .i64 n), .sl 1 0 1 0 128 c, .v (.int .u64 0)], some [.arr 128 .u8 (padL key)]] := by
  refine ACall.weak (C := c4 0) rfl (κ := fun v h' => v = .tup [.ptr 0 0 0, .v (.int .i64 0)] ∧ ∃ c,
      h' = [some [.arr 8 .u64 (paramL n key), .v (.int .i64 n), .sl 2 0 1 0 128 c, .v (.int .u64 0)], none, some [.arr 128 .u8 (padL key)]]) ?_ ?_
  · refine bd (good5 0) Try.func27 ?_
    refine go5 nf ?_
    repeat with_reducible refine gd ?_
    intro c0 _ c _
    rw [show key.length + (128 - key.length) = 128 from by omega]
    exact ⟨c, rfl⟩
  · rintro v h' ⟨rfl, c, rfl⟩
    exact ⟨_, _, weak_gc' [0, 2] (by decide) (by simp) (by rfl) rfl ⟨rfl, trivial⟩, rfl, c, rfl⟩
theorem new_nokey (n : Nat) (hb : 1 ≤ n ∧ n ≤ 64) :
    ACall Try.prog 27 [.v (.int .i64 n), .roI .u8 []] [] fun v h' => v = .tup [.ptr 0 0 0, .v (.int .i64 0)] ∧ ∃ c,
      h' = [some [.arr 8 .u64 (paramL n []), .v (.int .i64 n), .sl 1 0 1 0 0 c, .v (.int .u64 0)], some [.arr 0 .u8 []]] := by
  refine ACall.weak (C := c4 0) rfl (κ := fun v h' => v = .tup [.ptr 0 0 0, .v (.int .i64 0)] ∧
      h' = [some [.arr 8 .u64 (paramL n []), .v (.int .i64 n), .v (.slice none 0 0), .v (.int .u64 0)]]) ?_ ?_
  · refine bd (good5 0) Try.func27 ?_
    refine go5 nf ?_
    rfl
  · rintro v h' ⟨rfl, rfl⟩
    exact ⟨_, _, weak_nil (b := 0) [.arr 8 .u64 (paramL n []), .v (.int .i64 n)] [.v (.int .u64 0)] .u8 rfl, rfl, 0, rfl⟩

theorem new_ok (n : Nat) (key : List Int) (hb : 1 ≤ n ∧ n ≤ 64) (hk : key.length ≤ 64) :
    ACall Try.prog 27 [.v (.int .i64 n), .roI .u8 key] [] fun v h' => v = .tup [.ptr 0 0 0, .v (.int .i64 0)] ∧ ∃ c,
      h' = [some (hState (paramL n key) n (keyB key) c 1), some (hRest (keyB key))] := by
  by_cases h0 : key.length = 0
  · obtain rfl := List.eq_nil_of_length_eq_zero h0
    refine (new_nokey n hb).mono ?_
    rintro v h' ⟨rfl, c, rfl⟩
    exact ⟨rfl, c, rfl⟩
  · refine (new_key n key (by omega) hb).mono ?_
    rintro v h' ⟨rfl, c, rfl⟩
    have h1 : keyB key = padL key := by unfold keyB; rw [if_neg h0]
    have h2 := padL_len key (by omega)
    refine ⟨rfl, c, ?_⟩
    unfold hState hRest
    rw [h1, h2]
    rfl
end Go.Proofs.Ytfnfmbikooeiaaa

namespace Go.Proofs.Ytfnfmbikooeiaaa
open Go.Ax
theorem write_spec (h0 all m : List Int) (size c : Nat) (hh : h0.length = 8) (hb : all.length + m.length ≤ 1099511627776) :
    ACall Try.prog 29 [.ptr 0 0 0, .roI .u8 m] [some (hState h0 size all c 1), some (hRest all)]
      fun v h' => v = .tup [] ∧ ∃ c', h' = [some (hState h0 size (all ++ m) c' 2), none, some (hRest (all ++ m))] := by
  obtain ⟨q, hq⟩ : ∃ q, qOf all.length = q := ⟨_, rfl⟩
  have hq1 : 128 * q ≤ all.length := hq ▸ qOf_le _
  have hq2 : all.length ≤ 128 * q + 128 := by rw [← hq]; unfold qOf; omega
  obtain ⟨R, hR⟩ : ∃ R, all.drop (128 * q) ++ m = R := ⟨_, rfl⟩
  have hRl : R.length = all.length - 128 * q + m.length := by rw [← hR]; simp
  obtain ⟨N, hN⟩ : ∃ N, (R.length - 1) / 128 = N := ⟨_, rfl⟩
  have hQ : qOf (all ++ m).length = q + N := by rw [← hN, ← hq]; unfold qOf at *; simp only [List.length_append]; omega
  have hdrop : ∀ i, R.drop (128 * i) = (all ++ m).drop (128 * (q + i)) := by
    intro i
    rw [← hR, ← List.drop_append_of_le_length hq1, List.drop_drop]
    congr 1; omega
  refine ACall.weak (C := c5 2) rfl (κ := fun v h' => v = .tup [] ∧ ∃ c', h' = [some (hState h0 size (all ++ m) c' 3), none, some [.arr R.length .u8 R], some (hRest (all ++ m))]) ?_ ?_
  · unfold hState hRest
    rw [hQ, hq]
    refine bd (good5 2) Try.func29 ?_
    refine go5 hR ?_
    intro c2 hc2
    refine go5 hR ?_
    rw [show all.length - 128 * q + m.length = R.length from hRl.symm]
    refine loop_count (good5 2) (fun i => ⟨envL [(0, .ptr 0 0 0), (4, .v (.int .i64 (128 * i : Nat)))],
      [some [.arr 8 .u64 (pieces h0 (all ++ m) (q + i)), .v (.int .i64 size), .sl 2 0 1 0 R.length c2, .v (.int .u64 (128 * (q + i) : Nat))], none, some [.arr R.length .u8 R]]⟩) N (by kernel_rfl) ?_ ?_ ?_
    · have := pieces_app h0 all m q hq1
      exact wk (an this hR)
    · intro i hi
      have hl := pieces_len h0 (all ++ m) (q + i)
      repeat (first | simp only [c5_P, c5_odd, c5_ro, Nat.reduceBEq, reduceIte, Nat.reduceEqDiff, reduceCtorEq, ne_eq, if_true, if_false, exA, exA, tabs, exB, exD, buildA, rowOr, rowSetAt, rowAgg, mkAgg, AV.isAggV, AV.parts, AV.one, AV.solid, headSize, indexAddrA, indexA, fieldAddrA, fieldA, sliceA, boundsA, bndA, lenA, arrayAtA, rowOf, makeSliceA, intsOf, copyA, Nat.reduceAdd, Nat.reduceSub, Nat.reduceMul, Nat.reduceLeDiff, Nat.reduceLT, Nat.reduceGT, Int.reduceToNat, Int.reduceLE, Int.reduceLT, Int.reduceEq, Int.reduceNe, Int.reduceAdd, Int.reduceSub, Int.reduceMul, Int.reduceNeg, ite_true, ite_false, dite_true, c5_pure, c5_news, p4, p3, p2, p1, F80_eq, F70_eq, F53_eq, F55_eq, F25_eq, F56_eq, F23_eq, n5, N57_eq, exR, hl, hh] | simp (maxSteps := 1000000) (disch := omega) only [exE, Int.toNat_natCast, Int.reduceToNat, ar_addu])
      repeat with_reducible refine gd ?_
      have e1 : pieces h0 (all ++ m) (q + (i + 1)) = pieceL (pieces h0 (all ++ m) (q + i)) ((R.drop (128 * i)).take 128) ((128 * (q + i) + 128 : Nat) : Int) false := by rw [hdrop]; rfl
      have e2 : 128 * (q + (i + 1)) = 128 * (q + i) + 128 := by omega
      have e3 : 128 * (i + 1) = 128 * i + 128 := by omega
      exact wk (an e1 (an e2 e3))
    · refine go5 nf ?_
      repeat with_reducible refine gd ?_
      intro c3 _
      have e1 : all.length + m.length - 128 * (q + N) = R.length - 128 * N := by omega
      have e2 := hdrop N
      rw [e1, ← e2]
      exact ⟨c3, rfl⟩
  · rintro v h' ⟨rfl, c', rfl⟩
    exact ⟨_, _, weak_gc' [0, 1, 3] (by decide) (by simp) (by rfl) rfl ⟨rfl, trivial⟩, rfl, c', rfl⟩
end Go.Proofs.Ytfnfmbikooeiaaa

namespace Go.Proofs.Ytfnfmbikooeiaaa
open Go.Ax
theorem hsum_all (h0 all : List Int) (size c : Nat) (hh : h0.length = 8) (hs : 0 < size ∧ size ≤ 64) (hb : all.length ≤ 1099511627776) :
    ACall Try.prog 30 [.ptr 0 0 0] [some (hState h0 size all c 1), some (hRest all)]
      fun v h' => v = .sl 2 0 1 0 size size ∧ h' = [some (hState h0 size all c 1), some (hRest all), some [.arr size .u8 (digestL h0 size all)]] := by
  have hq := qOf_le all.length
  have hl : (all.drop (128 * qOf all.length)).length = all.length - 128 * qOf all.length := by simp
  have h1 := hsum_spec (pieces h0 all (qOf all.length)) (all.drop (128 * qOf all.length)) size c ((128 * qOf all.length : Nat) : Int) (by rw [pieces_len, hh]) hs (by rw [hl]; unfold qOf; omega)
  rw [hl, ar_addu _ _ (by omega)] at h1
  simp only [Int.toNat_natCast] at h1
  rw [show 128 * qOf all.length + (all.length - 128 * qOf all.length) = all.length from by omega] at h1
  exact h1
theorem hsum_nil : ACall Try.prog 30 [.v (.pointer none)] [] fun v h' => v = .v (.slice none 0 0) ∧ h' = [] := by
  refine bd (good5 0) Try.func30 ?_
  exact go5 nf trivial
theorem write_nil (x : AV) : ACall Try.prog 29 [.v (.pointer none), x] [] fun v h' => v = .tup [] ∧ h' = [] := by
  refine bd (good5 0) Try.func29 ?_
  exact go5 nf trivial
theorem fork_nil : ACall Try.prog 28 [.v (.pointer none)] [] fun v h' => v = .v (.pointer none) ∧ h' = [] := by
  refine bd (good5 0) Try.func28 ?_
  exact go5 nf trivial
theorem fork_spec (h0 all : List Int) (size c : Nat) (hh : h0.length = 8) (hb : all.length ≤ 1099511627776) :
    ACall Try.prog 28 [.ptr 0 0 0] [some (hState h0 size all c 1), some (hRest all)]
      fun v h' => v = .ptr 2 0 0 ∧ ∃ c', h' = [some (hState h0 size all c 1), some (hRest all), some (hState h0 size all c' 3), some (hRest all)] := by
  refine ACall.weak (C := c5 2) rfl (κ := fun v h' => v = .ptr 3 0 0 ∧ ∃ c', h' = [some (hState h0 size all c 1), some (hRest all), some (hRest all), some (hState h0 size all c' 2)]) ?_ ?_
  · have hl : (all.drop (128 * qOf all.length)).length = all.length - 128 * qOf all.length := by simp
    have hp := pieces_len h0 all (qOf all.length)
    unfold hState hRest
    refine bd (good5 2) Try.func28 ?_
    refine go5 (an hp hh) ?_
    repeat with_reducible refine gd ?_
    intro c3 _
    exact ⟨c3, rfl⟩
  · rintro v h' ⟨rfl, c', rfl⟩
    exact ⟨_, _, weak_gc' [0, 1, 3, 2] (by decide) (by simp) (by rfl) rfl ⟨rfl, trivial⟩, rfl, c', rfl⟩
end Go.Proofs.Ytfnfmbikooeiaaa

namespace Go.Proofs.Ytfnfmbikooeiaaa
open Go.Ax
def N27 (h : List Blk) : List AV → Option Out
  | [.v (.int .i64 n), x] => (u8Of h x).bind fun key => oguard (key.length ≤ 140737488355328) (osel (decide (n < 1 ∨ 64 < n ∨ 64 < key.length)) (some (.one (.tup [.v (.pointer none), .v (.int .i64 1)]) h))
      (some (.cap 0 fun c => (.tup [.ptr h.length 0 0, .v (.int .i64 0)], h ++ [some (hState (paramL n.toNat key) n.toNat (keyB key) c (h.length + 1)), some (hRest (keyB key))]))))
  | _ => none
theorem N27_eq (h : List Blk) (n : Int) (x : AV) : N27 h [.v (.int .i64 n), x] = (u8Of h x).bind fun key => oguard (key.length ≤ 140737488355328) (osel (decide (n < 1 ∨ 64 < n ∨ 64 < key.length)) (some (.one (.tup [.v (.pointer none), .v (.int .i64 1)]) h))
      (some (.cap 0 fun c => (.tup [.ptr h.length 0 0, .v (.int .i64 0)], h ++ [some (hState (paramL n.toNat key) n.toNat (keyB key) c (h.length + 1)), some (hRest (keyB key))])))) := rfl
noncomputable def n6 : FuncId → Option (List Blk → List AV → Option Out) := addNews n5 27 N27
noncomputable def c6 (k : Nat) : Cfg := ⟨Try.prog, k, p4, [], n6, none, []⟩
theorem c6_odd (k : Nat) : (c6 k).odd = [] := rfl
theorem c6_ro (k : Nat) : (c6 k).ro = [] := rfl
theorem c6_P (k : Nat) : (c6 k).P = Try.prog := rfl
theorem c6_pure (k : Nat) : (c6 k).pure = p4 := rfl
theorem c6_news (k : Nat) : (c6 k).news = n6 := rfl
theorem go6 {F A B : Prop} (f : F) (b : B) (h : F → A = B := by intro f; (repeat (first | simp only [c6_P, c6_odd, c6_ro, Nat.reduceBEq, reduceIte, Nat.reduceEqDiff, reduceCtorEq, ne_eq, if_true, if_false, exA, exA, tabs, exB, exD, buildA, rowOr, rowSetAt, rowAgg, mkAgg, AV.isAggV, AV.parts, AV.one, AV.solid, headSize, indexAddrA, indexA, fieldAddrA, fieldA, sliceA, boundsA, bndA, lenA, arrayAtA, rowOf, makeSliceA, intsOf, copyA, Nat.reduceAdd, Nat.reduceSub, Nat.reduceMul, Nat.reduceLeDiff, Nat.reduceLT, Nat.reduceGT, Int.reduceToNat, Int.reduceLE, Int.reduceLT, Int.reduceEq, Int.reduceNe, Int.reduceAdd, Int.reduceSub, Int.reduceMul, Int.reduceNeg, ite_true, ite_false, dite_true, c6_pure, c6_news, p4, p3, p2, p1, F80_eq, F70_eq, F53_eq, F55_eq, F25_eq, F56_eq, F23_eq, n6, n5, N57_eq, N27_eq, exR, f] | simp (maxSteps := 1000000) (disch := omega) only [exE, Int.toNat_natCast, Int.reduceToNat])); all_goals rfl) : A := Eq.mpr (h f) b
theorem good6 (k : Nat) : (c6 k).Good := by
  refine Cfg.Good.addN (good5 k) ?_ k
  intro h args out hN
  unfold N27 at hN
  split at hN
  · rename_i n x
    obtain ⟨key, hl, hN⟩ := Option.bind_eq_some_iff.1 hN
    obtain ⟨h1, hN⟩ := oguard_some hN
    by_cases hb : n < 1 ∨ 64 < n ∨ 64 < key.length
    · rw [osel_pos (decide_eq_true hb)] at hN
      cases hN
      refine ⟨⟨[], by simp⟩, fun κ hκ => news_ok (args := [.v (.int .i64 n), x]) (new_bad n key h1 hb) (by rintro _ _ ⟨rfl, rfl⟩; exact ⟨rfl, rfl⟩) (fun g => rfl) ⟨Frz.same _, u8Of_frz hl, trivial⟩ ?_ hκ⟩
      rintro _ _ ⟨rfl, rfl⟩
      exact ⟨rfl, by simp⟩
    · rw [osel_neg (decide_eq_false hb)] at hN
      cases hN
      obtain ⟨n, rfl⟩ := Int.eq_ofNat_of_zero_le (show 0 ≤ n by omega)
      refine ⟨fun c _ => ⟨_, rfl⟩, fun κ hκ => news_ok (args := [.v (.int .i64 n), x]) (new_ok n key (by omega) (by omega)) (by rintro _ _ ⟨rfl, c, rfl⟩; exact ⟨rfl, rfl⟩) (fun g => rfl) ⟨Frz.same _, u8Of_frz hl, trivial⟩ ?_ hκ⟩
      rintro _ _ ⟨rfl, c, rfl⟩
      exact ⟨c, Nat.zero_le _, rfl⟩
  · cases hN
theorem sum_bad (n : Int) (key : List Int) (ms : List (List Int)) (hk : key.length ≤ 140737488355328) (hb : n < 1 ∨ 64 < n ∨ 64 < key.length) :
    ACall Try.prog 20 [.v (.int .i64 n), .roI .u8 key, .roL 1 (ms.map (AV.roI .u8))] [] fun v h' => v = .tup [.v (.slice none 0 0), .v (.int .i64 1)] ∧ h' = [] := by
  refine bd (good6 0) Try.func20 ?_
  refine go6 nf ?_
  exact hk
theorem sum_ok (n : Nat) (key : List Int) (ms : List (List Int)) (hb : 1 ≤ n ∧ n ≤ 64) (hk : key.length ≤ 64) (hm : ms.flatten.length ≤ 549755813888 ∧ ms.length ≤ 549755813888) :
    ACall Try.prog 20 [.v (.int .i64 n), .roI .u8 key, .roL 1 (ms.map (AV.roI .u8))] [] fun v h' => v = .tup [.sl 0 0 1 0 n n, .v (.int .i64 0)] ∧ h' = [some [.arr n .u8 (blakeL n key ms.flatten)]] := by
  refine ACall.weak (C := c6 0) rfl (κ := fun v h' => v = .tup [.sl 2 0 1 0 n n, .v (.int .i64 0)] ∧ ∃ x y, h' = [x, y, some [.arr n .u8 (blakeL n key ms.flatten)]]) ?_ ?_
  · have hkl := keyB_len key hk
    refine bd (good6 0) Try.func20 ?_
    refine go6 nf ?_
    repeat with_reducible refine gd ?_
    intro c0 _
    refine loop_countE (good6 0) (fun i c => ⟨envL [(8, .ptr 0 0 0), (21, .roL 1 (ms.map (AV.roI .u8))), (22, .v (.int .i64 ms.length)), (23, .v (.int .i64 i))],
      [some (hState (paramL n key) n (keyB key ++ (ms.take i).flatten) c 1), some (hRest (keyB key ++ (ms.take i).flatten))]⟩) ms.length (by kernel_rfl) ⟨c0, ?_⟩ ?_ ?_
    · exact wk (an @List.take_zero.{0} @List.flatten_nil.{0})
    · intro i c hi
      have hg := roL_get .u8 ms i hi
      have hf := flat_take ms i hi
      have h1 := flat_le ms i
      have h2 := flat_le ms (i + 1)
      rw [hf, List.length_append] at h2
      refine go6 hg ?_
      repeat with_reducible refine gd ?_
      refine callC_fr [0, 1] (write_spec (paramL n key) (keyB key ++ (ms.take i).flatten) (ms.getD i []) n c rfl (by rw [List.length_append]; omega)) rfl rfl (by decide) ?_
      rintro _ _ ⟨rfl, c', rfl⟩
      refine go6 (an exG (an @hState_ren @hRest_ren)) ?_
      refine ⟨c', ?_⟩
      rw [hf, ← List.append_assoc]
      exact wgc [0, 2] (an @hState_ren @hRest_ren)
    · intro c
      have h1 : ms.take ms.length = ms := List.take_length
      refine go6 nf ?_
      refine callC_fr [0, 1] (hsum_all (paramL n key) (keyB key ++ ms.flatten) n c rfl (by omega) (by rw [List.length_append]; omega)) rfl rfl (by decide) ?_
      rintro _ _ ⟨rfl, rfl⟩
      refine go6 (an exG (an @hState_ren @hRest_ren)) ?_
      exact ⟨_, _, rfl⟩
  · rintro v h' ⟨rfl, x, y, rfl⟩
    exact ⟨_, _, weak_gc' [2] (by decide) (by simp) (by rfl) rfl ⟨rfl, trivial⟩, rfl, rfl⟩
end Go.Proofs.Ytfnfmbikooeiaaa

namespace Go.Proofs.Ytfnfmbikooeiaaa
open Go.Ax
theorem rsum_bad (n : Int) (key msg : List Int) (hk : key.length ≤ 140737488355328) (hb : n < 1 ∨ 64 < n ∨ 64 < key.length) :
    ACall Try.prog 21 [.v (.int .i64 n), .roI .u8 key, .roI .u8 msg] [] fun v h' => v = .tup [.v (.slice none 0 0), .v (.int .i64 1)] ∧ h' = [] := by
  refine bd (good6 0) Try.func21 ?_
  refine go6 nf ?_
  by_cases h1 : n < 1
  · exact go6 nf trivial
  · by_cases h2 : 64 < n
    · exact go6 nf trivial
    · exact go6 nf trivial

theorem rsum_nokey (n : Nat) (key msg : List Int) (hb : 1 ≤ n ∧ n ≤ 64) (hk : key.length = 0) (hm : msg.length ≤ 549755813888) :
    ACall Try.prog 21 [.v (.int .i64 n), .roI .u8 key, .roI .u8 msg] [] fun v h' => ∃ c, v = .tup [.sl 0 0 1 0 n c, .v (.int .i64 0)] ∧ h' = [some [.arr n .u8 (blakeL n key msg)]] := by
  refine ACall.weak (C := c6 0) rfl (κ := fun v h' => ∃ c, v = .tup [.sl 1 0 1 0 n c, .v (.int .i64 0)] ∧ ∃ x, h' = [x, some [.arr n .u8 (blakeL n key msg)]]) ?_ ?_
  · obtain ⟨all, hall⟩ : ∃ all, keyB key ++ msg = all := ⟨_, rfl⟩
    have hal : all.length = (keyB key).length + msg.length := by rw [← hall, List.length_append]
    have hkb : keyB key = [] := by unfold keyB; rw [if_pos hk]
    rw [hkb, List.length_nil] at hal
    obtain ⟨q, hq⟩ : ∃ q, qOf all.length = q := ⟨_, rfl⟩
    have hq1 : 128 * q ≤ all.length := hq ▸ qOf_le _
    have hq2 : all.length ≤ 128 * q + 128 := by rw [← hq]; unfold qOf; omega
    have hq3 : ∀ i, i < q → 128 * i + 128 < all.length := by intro i hi; rw [← hq] at hi; unfold qOf at hi; omega
    have hq4 : 0 < q → 128 * q < all.length := by rw [← hq]; unfold qOf; omega
    refine bd (good6 0) Try.func21 ?_
    refine go6 nf ?_
    repeat with_reducible refine gd ?_
    intro c _
    refine go6 nf ?_
    repeat with_reducible refine gd ?_
    skip
    rw [param_eq n key _ (by simp [shl, IntKind.bits])]
    refine loop_count (good6 0) (fun i => ⟨envL [(0, .v (.int .i64 n)), (8, .ptr 0 0 0), (9, .sl 1 0 1 0 all.length c), (10, .v (.int .i64 (128 * i : Nat)))],
      [some [.arr 8 .u64 (refAt (paramL n key) all i)], some [.arr all.length .u8 all]]⟩) (q + 1) (by kernel_rfl) ?_ ?_ ?_
    · have h1 := refAt_lo (paramL n key) all 0 (by omega)
      rw [h1, ← hall, hkb]
      (refine weak_of ?_ ?_; (focus (first | with_reducible rfl | (simp only [pieces, List.nil_append, Nat.mul_zero] <;> with_reducible rfl))); simp only [exF, Nat.reduceEqDiff, if_true, if_false, reduceIte, Option.some.injEq, reduceCtorEq, Int.cast_ofNat_Int, pieces, List.nil_append, Nat.mul_zero])
    · intro i hi
      have hh := refAt_len (paramL n key) all i
      have hp := paramL_len n key
      obtain ⟨m, hm⟩ : ∃ m, min 128 (all.length - 128 * i) = m := ⟨_, rfl⟩
      by_cases h0 : i = 0 <;> ((first | exact go6 nf trivial | refine go6 nf ?_))
      all_goals
        refine loop_count (good6 0) (fun j => ⟨envL [(0, .v (.int .i64 n)), (8, .ptr 0 0 0), (9, .sl 1 0 1 0 all.length c), (10, .v (.int .i64 (128 * i : Nat))), (11, .ptr 2 0 0), (12, .v (.int .i64 j))],
          [some [.arr 8 .u64 (refAt (paramL n key) all i)], some [.arr all.length .u8 all], some [.arr 128 .u8 (fillAt (fun j => all.getD (128 * i + j) 0) (List.replicate 128 0) j)]]⟩) m (by kernel_rfl) ?_ ?_ ?_
        · (refine weak_of ?_ ?_; (focus (first | with_reducible rfl | (simp only [fillAt] <;> with_reducible rfl))); simp only [exF, Nat.reduceEqDiff, if_true, if_false, reduceIte, Option.some.injEq, reduceCtorEq, Int.cast_ofNat_Int, fillAt])
        · intro j hj
          refine go6 @fillAt_len ?_
          repeat with_reducible refine gd ?_
          (refine weak_of ?_ ?_; (focus (first | with_reducible rfl | (simp only [fillAt] <;> with_reducible rfl))); simp only [exF, Nat.reduceEqDiff, if_true, if_false, reduceIte, Option.some.injEq, reduceCtorEq, Int.cast_ofNat_Int, fillAt])
        · have hf := fill_piece all (128 * i) m hm.symm (by omega)
          have hfl := fillAt_len (fun j => all.getD (128 * i + j) 0) (List.replicate 128 0) m
          rw [List.length_replicate] at hfl
          have hmm : m = 128 ∨ (m < 128 ∧ 128 * i + m = all.length) := by omega
          by_cases hiq : i < q
          · have h1 := hq3 i hiq
            have hm8 : m = 128 := by omega
            have e1 : refAt (paramL n key) all (i + 1) = pieceL (refAt (paramL n key) all i) (fillAt (fun j => all.getD (128 * i + j) 0) (List.replicate 128 0) m) ((128 * i + 128 : Nat) : Int) false := by
              rw [refAt_lo _ _ _ (by omega), refAt_lo _ _ _ (by omega), hf, padL_full _ (by rw [List.length_take, List.length_drop]; omega)]; rfl
            have e2 : 128 * (i + 1) = 128 * i + 128 := by omega
            refine go6 (an hh (an hp hfl)) ?_
            exact wgc [0, 1] (an e1 e2)
          · have hiq : i = q := by omega
            have e1 : refAt (paramL n key) all (i + 1) = pieceL (refAt (paramL n key) all i) (fillAt (fun j => all.getD (128 * i + j) 0) (List.replicate 128 0) m) (all.length : Nat) true := by
              rw [hiq, ← hq, refAt_hi, refAt_lo _ _ _ (by omega), hq, ← hiq, hf, List.take_of_length_le (show (all.drop (128 * i)).length ≤ 128 by rw [List.length_drop]; omega)]
            have e2 : 128 * (i + 1) = 128 * i + 128 := by omega
            rcases hmm with hmm | hmm
            · refine go6 (an hh (an hp hfl)) ?_
              exact wgc [0, 1] (an e1 e2)
            · first
              | (exfalso; omega)
              | (((first | exact go6 (an hh (an hp hfl)) trivial | refine go6 (an hh (an hp hfl)) ?_))
                 exact wgc [0, 1] (an e1 e2))
    · have hh := refAt_len (paramL n key) all (q + 1)
      have hp := paramL_len n key
      refine go6 (an hh hp) ?_
      refine loop_countE (good6 0) (fun i c => ⟨envL [(0, .v (.int .i64 n)), (8, .ptr 0 0 0), (13, .sl 1 0 1 0 i c), (14, .v (.int .i64 i))],
        [some [.arr 8 .u64 (refAt (paramL n key) all (q + 1))], some [.arr i .u8 ((List.range i).map (byteAt (refAt (paramL n key) all (q + 1))))]]⟩) n (by kernel_rfl) ⟨0, ?_⟩ ?_ ?_
      · refine Weak.trans (weak_nil_slot 13 .u8 rfl (fun j => get_put _ _ _ _)) ?_
        exact wgc [0, 2] @List.range_zero
      · intro i c hi
        refine go6 (an hh hp) ?_
        repeat with_reducible refine gd ?_
        intro c1 _
        refine ⟨c1, ?_⟩
        (refine weak_gc' [0, 3] (by decide) (by simp) (by rfl) ?_ ?_; (focus (first | with_reducible rfl | (simp only [List.map_cons, List.map_nil, List.cons_append, List.nil_append, List.getElem?_cons_zero, List.getElem?_cons_succ, renB, renL, Option.map_some, Option.map_none, AV.ren, gcMap, List.getD_cons_zero, List.getD_cons_succ, range_snoc, byteAt] <;> with_reducible rfl))); simp only [exF, List.map_cons, List.map_nil, List.length_cons, List.length_nil, Nat.reduceAdd, AV.ren, renL, gcMap, Nat.reduceEqDiff, if_true, if_false, reduceIte, Option.some.injEq, reduceCtorEq, Int.cast_ofNat_Int, range_snoc, byteAt])
      · intro c
        have e1 : (List.range n).map (byteAt (refAt (paramL n key) all (q + 1))) = blakeL n key msg := by
          unfold blakeL digestL; rw [hall, ← hq, refAt_hi]
        rw [e1]
        refine go6 (an hh hp) ?_
        exact ⟨c, rfl, _, rfl⟩
  · rintro v h' ⟨c, rfl, x, rfl⟩
    exact ⟨_, _, weak_gc' [1] (by decide) (by simp) (by rfl) rfl ⟨rfl, trivial⟩, c, rfl, rfl⟩

theorem rsum_key (n : Nat) (key msg : List Int) (hb : 1 ≤ n ∧ n ≤ 64) (hk : 0 < key.length ∧ key.length ≤ 64) (hm : msg.length ≤ 549755813888) :
    ACall Try.prog 21 [.v (.int .i64 n), .roI .u8 key, .roI .u8 msg] [] fun v h' => ∃ c, v = .tup [.sl 0 0 1 0 n c, .v (.int .i64 0)] ∧ h' = [some [.arr n .u8 (blakeL n key msg)]] := by
  refine ACall.weak (C := c6 0) rfl (κ := fun v h' => ∃ c, v = .tup [.sl 1 0 1 0 n c, .v (.int .i64 0)] ∧ ∃ x, h' = [x, some [.arr n .u8 (blakeL n key msg)]]) ?_ ?_
  · obtain ⟨all, hall⟩ : ∃ all, keyB key ++ msg = all := ⟨_, rfl⟩
    have hal : all.length = (keyB key).length + msg.length := by rw [← hall, List.length_append]
    have hkb : keyB key = padL key := by unfold keyB; rw [if_neg (by omega)]
    rw [hkb, padL_len key (by omega)] at hal
    obtain ⟨q, hq⟩ : ∃ q, qOf all.length = q := ⟨_, rfl⟩
    have hq1 : 128 * q ≤ all.length := hq ▸ qOf_le _
    have hq2 : all.length ≤ 128 * q + 128 := by rw [← hq]; unfold qOf; omega
    have hq3 : ∀ i, i < q → 128 * i + 128 < all.length := by intro i hi; rw [← hq] at hi; unfold qOf at hi; omega
    have hq4 : 0 < q → 128 * q < all.length := by rw [← hq]; unfold qOf; omega
    refine bd (good6 0) Try.func21 ?_
    refine go6 nf ?_
    repeat with_reducible refine gd ?_
    intro c1 _ c2 _ c _
    refine go6 nf ?_
    repeat with_reducible refine gd ?_
    have htk : (key ++ List.replicate (128 - key.length) (0 : Int)).take (key.length + (128 - key.length)) = key ++ List.replicate (128 - key.length) 0 := List.take_of_length_le (by simp)
    rw [param_eq n key _ (by simp [shl, IntKind.bits])]
    refine loop_count (good6 0) (fun i => ⟨envL [(0, .v (.int .i64 n)), (8, .ptr 0 0 0), (9, .sl 1 0 1 0 all.length c), (10, .v (.int .i64 (128 * i : Nat)))],
      [some [.arr 8 .u64 (refAt (paramL n key) all i)], some [.arr all.length .u8 all]]⟩) (q + 1) (by kernel_rfl) ?_ ?_ ?_
    · have h1 := refAt_lo (paramL n key) all 0 (by omega)
      rw [h1, ← hall, hkb]
      (refine weak_gc' [0, 3] (by decide) (by simp) (by rfl) ?_ ?_; (focus (first | with_reducible rfl | (simp only [List.map_cons, List.map_nil, List.cons_append, List.nil_append, List.getElem?_cons_zero, List.getElem?_cons_succ, renB, renL, Option.map_some, Option.map_none, AV.ren, gcMap, List.getD_cons_zero, List.getD_cons_succ, pieces, padL, htk, List.length_append, List.length_replicate, Nat.mul_zero] <;> with_reducible rfl))); simp only [exF, List.map_cons, List.map_nil, List.length_cons, List.length_nil, Nat.reduceAdd, AV.ren, renL, gcMap, Nat.reduceEqDiff, if_true, if_false, reduceIte, Option.some.injEq, reduceCtorEq, Int.cast_ofNat_Int, pieces, padL, htk, List.length_append, List.length_replicate, Nat.mul_zero])
    · intro i hi
      have hh := refAt_len (paramL n key) all i
      have hp := paramL_len n key
      obtain ⟨m, hm⟩ : ∃ m, min 128 (all.length - 128 * i) = m := ⟨_, rfl⟩
      by_cases h0 : i = 0 <;> ((first | exact go6 nf trivial | refine go6 nf ?_))
      all_goals
        refine loop_count (good6 0) (fun j => ⟨envL [(0, .v (.int .i64 n)), (8, .ptr 0 0 0), (9, .sl 1 0 1 0 all.length c), (10, .v (.int .i64 (128 * i : Nat))), (11, .ptr 2 0 0), (12, .v (.int .i64 j))],
          [some [.arr 8 .u64 (refAt (paramL n key) all i)], some [.arr all.length .u8 all], some [.arr 128 .u8 (fillAt (fun j => all.getD (128 * i + j) 0) (List.replicate 128 0) j)]]⟩) m (by kernel_rfl) ?_ ?_ ?_
        · (refine weak_of ?_ ?_; (focus (first | with_reducible rfl | (simp only [fillAt] <;> with_reducible rfl))); simp only [exF, Nat.reduceEqDiff, if_true, if_false, reduceIte, Option.some.injEq, reduceCtorEq, Int.cast_ofNat_Int, fillAt])
        · intro j hj
          refine go6 @fillAt_len ?_
          repeat with_reducible refine gd ?_
          (refine weak_of ?_ ?_; (focus (first | with_reducible rfl | (simp only [fillAt] <;> with_reducible rfl))); simp only [exF, Nat.reduceEqDiff, if_true, if_false, reduceIte, Option.some.injEq, reduceCtorEq, Int.cast_ofNat_Int, fillAt])
        · have hf := fill_piece all (128 * i) m hm.symm (by omega)
          have hfl := fillAt_len (fun j => all.getD (128 * i + j) 0) (List.replicate 128 0) m
          rw [List.length_replicate] at hfl
          have hmm : m = 128 ∨ (m < 128 ∧ 128 * i + m = all.length) := by omega
          by_cases hiq : i < q
          · have h1 := hq3 i hiq
            have hm8 : m = 128 := by omega
            have e1 : refAt (paramL n key) all (i + 1) = pieceL (refAt (paramL n key) all i) (fillAt (fun j => all.getD (128 * i + j) 0) (List.replicate 128 0) m) ((128 * i + 128 : Nat) : Int) false := by
              rw [refAt_lo _ _ _ (by omega), refAt_lo _ _ _ (by omega), hf, padL_full _ (by rw [List.length_take, List.length_drop]; omega)]; rfl
            have e2 : 128 * (i + 1) = 128 * i + 128 := by omega
            refine go6 (an hh (an hp hfl)) ?_
            exact wgc [0, 1] (an e1 e2)
          · have hiq : i = q := by omega
            have e1 : refAt (paramL n key) all (i + 1) = pieceL (refAt (paramL n key) all i) (fillAt (fun j => all.getD (128 * i + j) 0) (List.replicate 128 0) m) (all.length : Nat) true := by
              rw [hiq, ← hq, refAt_hi, refAt_lo _ _ _ (by omega), hq, ← hiq, hf, List.take_of_length_le (show (all.drop (128 * i)).length ≤ 128 by rw [List.length_drop]; omega)]
            have e2 : 128 * (i + 1) = 128 * i + 128 := by omega
            rcases hmm with hmm | hmm
            · refine go6 (an hh (an hp hfl)) ?_
              exact wgc [0, 1] (an e1 e2)
            · first
              | (exfalso; omega)
              | (((first | exact go6 (an hh (an hp hfl)) trivial | refine go6 (an hh (an hp hfl)) ?_))
                 exact wgc [0, 1] (an e1 e2))
    · have hh := refAt_len (paramL n key) all (q + 1)
      have hp := paramL_len n key
      refine go6 (an hh hp) ?_
      refine loop_countE (good6 0) (fun i c => ⟨envL [(0, .v (.int .i64 n)), (8, .ptr 0 0 0), (13, .sl 1 0 1 0 i c), (14, .v (.int .i64 i))],
        [some [.arr 8 .u64 (refAt (paramL n key) all (q + 1))], some [.arr i .u8 ((List.range i).map (byteAt (refAt (paramL n key) all (q + 1))))]]⟩) n (by kernel_rfl) ⟨0, ?_⟩ ?_ ?_
      · refine Weak.trans (weak_nil_slot 13 .u8 rfl (fun j => get_put _ _ _ _)) ?_
        exact wgc [0, 2] @List.range_zero
      · intro i c hi
        refine go6 (an hh hp) ?_
        repeat with_reducible refine gd ?_
        intro c1 _
        refine ⟨c1, ?_⟩
        (refine weak_gc' [0, 3] (by decide) (by simp) (by rfl) ?_ ?_; (focus (first | with_reducible rfl | (simp only [List.map_cons, List.map_nil, List.cons_append, List.nil_append, List.getElem?_cons_zero, List.getElem?_cons_succ, renB, renL, Option.map_some, Option.map_none, AV.ren, gcMap, List.getD_cons_zero, List.getD_cons_succ, range_snoc, byteAt] <;> with_reducible rfl))); simp only [exF, List.map_cons, List.map_nil, List.length_cons, List.length_nil, Nat.reduceAdd, AV.ren, renL, gcMap, Nat.reduceEqDiff, if_true, if_false, reduceIte, Option.some.injEq, reduceCtorEq, Int.cast_ofNat_Int, range_snoc, byteAt])
      · intro c
        have e1 : (List.range n).map (byteAt (refAt (paramL n key) all (q + 1))) = blakeL n key msg := by
          unfold blakeL digestL; rw [hall, ← hq, refAt_hi]
        rw [e1]
        refine go6 (an hh hp) ?_
        exact ⟨c, rfl, _, rfl⟩
  · rintro v h' ⟨c, rfl, x, rfl⟩
    exact ⟨_, _, weak_gc' [1] (by decide) (by simp) (by rfl) rfl ⟨rfl, trivial⟩, c, rfl, rfl⟩
end Go.Proofs.Ytfnfmbikooeiaaa

namespace Go.Proofs.Ytfnfmbikooeiaaa
open Go.Ax
theorem ACall.capTup {P : Program} {f : FuncId} {args : List AV} {h : List Blk} {κ : AV → List Blk → Prop} (hc : ACall P f args h κ) :
    ACall P f args h fun v h' => κ v h' ∧ ∀ b b1 b2 b3 len cap y, v = .tup [.sl b b1 b2 b3 len cap, y] → len ≤ cap := by
  refine ⟨hc.1, ?_⟩
  intro E w ρ vs h1 h2 h3
  refine (hc.2 E w ρ vs h1 h2 h3).mono ?_
  rintro en w' ⟨av, v, ρ', h', rfl, hκ, hv, rest⟩
  refine ⟨av, v, ρ', h', rfl, ⟨hκ, ?_⟩, hv, rest⟩
  rintro b b1 b2 b3 len cap y rfl
  simp only [AV.relV, relVs] at hv
  obtain ⟨vs, _, x, _, _, hx, _⟩ := hv
  simp only [AV.rel] at hx
  rcases hx with ⟨_, _, _, _, _, _, hl⟩ | ⟨_, _, hl, hc⟩
  · exact hl
  · omega
def N20 (h : List Blk) : List AV → Option Out
  | [.v (.int .i64 n), x, m] => (u8Of h x).bind fun key => (u8sOf h m).bind fun ms => oguard (key.length ≤ 140737488355328) (osel (decide (n < 1 ∨ 64 < n ∨ 64 < key.length)) (some (.one (.tup [.v (.slice none 0 0), .v (.int .i64 1)]) h))
      (oguard (ms.flatten.length ≤ 549755813888 ∧ ms.length ≤ 549755813888) (some (.one (.tup [.sl h.length 0 1 0 n.toNat n.toNat, .v (.int .i64 0)]) (h ++ [some [.arr n.toNat .u8 (blakeL n.toNat key ms.flatten)]])))))
  | _ => none
theorem N20_eq (h : List Blk) (n : Int) (x m : AV) : N20 h [.v (.int .i64 n), x, m] = (u8Of h x).bind fun key => (u8sOf h m).bind fun ms => oguard (key.length ≤ 140737488355328) (osel (decide (n < 1 ∨ 64 < n ∨ 64 < key.length)) (some (.one (.tup [.v (.slice none 0 0), .v (.int .i64 1)]) h))
      (oguard (ms.flatten.length ≤ 549755813888 ∧ ms.length ≤ 549755813888) (some (.one (.tup [.sl h.length 0 1 0 n.toNat n.toNat, .v (.int .i64 0)]) (h ++ [some [.arr n.toNat .u8 (blakeL n.toNat key ms.flatten)]]))))) := rfl
def N21 (h : List Blk) : List AV → Option Out
  | [.v (.int .i64 n), x, m] => (u8Of h x).bind fun key => (u8Of h m).bind fun msg => oguard (key.length ≤ 140737488355328) (osel (decide (n < 1 ∨ 64 < n ∨ 64 < key.length)) (some (.one (.tup [.v (.slice none 0 0), .v (.int .i64 1)]) h))
      (oguard (msg.length ≤ 549755813888) (some (.cap n.toNat fun c => (.tup [.sl h.length 0 1 0 n.toNat c, .v (.int .i64 0)], h ++ [some [.arr n.toNat .u8 (blakeL n.toNat key msg)]])))))
  | _ => none
theorem N21_eq (h : List Blk) (n : Int) (x m : AV) : N21 h [.v (.int .i64 n), x, m] = (u8Of h x).bind fun key => (u8Of h m).bind fun msg => oguard (key.length ≤ 140737488355328) (osel (decide (n < 1 ∨ 64 < n ∨ 64 < key.length)) (some (.one (.tup [.v (.slice none 0 0), .v (.int .i64 1)]) h))
      (oguard (msg.length ≤ 549755813888) (some (.cap n.toNat fun c => (.tup [.sl h.length 0 1 0 n.toNat c, .v (.int .i64 0)], h ++ [some [.arr n.toNat .u8 (blakeL n.toNat key msg)]]))))) := rfl
noncomputable def n7 : FuncId → Option (List Blk → List AV → Option Out) := addNews (addNews n6 20 N20) 21 N21
noncomputable def c7 (k : Nat) : Cfg := ⟨Try.prog, k, p4, [], n7, none, []⟩
theorem c7_odd (k : Nat) : (c7 k).odd = [] := rfl
theorem c7_ro (k : Nat) : (c7 k).ro = [] := rfl
theorem c7_P (k : Nat) : (c7 k).P = Try.prog := rfl
theorem c7_pure (k : Nat) : (c7 k).pure = p4 := rfl
theorem c7_news (k : Nat) : (c7 k).news = n7 := rfl
theorem go7 {F A B : Prop} (f : F) (b : B) (h : F → A = B := by intro f; (repeat (first | simp only [c7_P, c7_odd, c7_ro, Nat.reduceBEq, reduceIte, Nat.reduceEqDiff, reduceCtorEq, ne_eq, if_true, if_false, exA, exA, tabs, exB, exD, buildA, rowOr, rowSetAt, rowAgg, mkAgg, AV.isAggV, AV.parts, AV.one, AV.solid, headSize, indexAddrA, indexA, fieldAddrA, fieldA, sliceA, boundsA, bndA, lenA, arrayAtA, rowOf, makeSliceA, intsOf, copyA, Nat.reduceAdd, Nat.reduceSub, Nat.reduceMul, Nat.reduceLeDiff, Nat.reduceLT, Nat.reduceGT, Int.reduceToNat, Int.reduceLE, Int.reduceLT, Int.reduceEq, Int.reduceNe, Int.reduceAdd, Int.reduceSub, Int.reduceMul, Int.reduceNeg, ite_true, ite_false, dite_true, c7_pure, c7_news, p4, p3, p2, p1, F80_eq, F70_eq, F53_eq, F55_eq, F25_eq, F56_eq, F23_eq, n7, n6, n5, N57_eq, N27_eq, N20_eq, N21_eq, exR, f] | simp (maxSteps := 1000000) (disch := omega) only [exE, Int.toNat_natCast, Int.reduceToNat])); all_goals rfl) : A := Eq.mpr (h f) b
theorem good7 (k : Nat) : (c7 k).Good := by
  refine Cfg.Good.addN (Cfg.Good.addN (good6 k) ?_ k) ?_ k
  · intro h args out hN
    unfold N20 at hN
    split at hN
    · rename_i n x m
      obtain ⟨key, hl, hN⟩ := Option.bind_eq_some_iff.1 hN
      obtain ⟨ms, hm, hN⟩ := Option.bind_eq_some_iff.1 hN
      obtain ⟨h1, hN⟩ := oguard_some hN
      by_cases hb : n < 1 ∨ 64 < n ∨ 64 < key.length
      · rw [osel_pos (decide_eq_true hb)] at hN
        cases hN
        refine ⟨⟨[], by simp⟩, fun κ hκ => news_ok (args := [.v (.int .i64 n), x, m]) (sum_bad n key ms h1 hb) (by rintro _ _ ⟨rfl, rfl⟩; exact ⟨rfl, rfl⟩) (fun g => rfl) ⟨Frz.same _, u8Of_frz hl, u8sOf_frz hm, trivial⟩ ?_ hκ⟩
        rintro _ _ ⟨rfl, rfl⟩
        exact ⟨rfl, by simp⟩
      · rw [osel_neg (decide_eq_false hb)] at hN
        obtain ⟨h2, hN⟩ := oguard_some hN
        cases hN
        obtain ⟨n, rfl⟩ := Int.eq_ofNat_of_zero_le (show 0 ≤ n by omega)
        refine ⟨⟨_, rfl⟩, fun κ hκ => news_ok (args := [.v (.int .i64 n), x, m]) (sum_ok n key ms (by omega) (by omega) h2) (by rintro _ _ ⟨rfl, rfl⟩; exact ⟨rfl, rfl⟩) (fun g => rfl) ⟨Frz.same _, u8Of_frz hl, u8sOf_frz hm, trivial⟩ ?_ hκ⟩
        rintro _ _ ⟨rfl, rfl⟩
        exact ⟨rfl, rfl⟩
    · cases hN
  · intro h args out hN
    unfold N21 at hN
    split at hN
    · rename_i n x m
      obtain ⟨key, hl, hN⟩ := Option.bind_eq_some_iff.1 hN
      obtain ⟨msg, hm, hN⟩ := Option.bind_eq_some_iff.1 hN
      obtain ⟨h1, hN⟩ := oguard_some hN
      by_cases hb : n < 1 ∨ 64 < n ∨ 64 < key.length
      · rw [osel_pos (decide_eq_true hb)] at hN
        cases hN
        refine ⟨⟨[], by simp⟩, fun κ hκ => news_ok (args := [.v (.int .i64 n), x, m]) (rsum_bad n key msg h1 hb) (by rintro _ _ ⟨rfl, rfl⟩; exact ⟨rfl, rfl⟩) (fun g => rfl) ⟨Frz.same _, u8Of_frz hl, u8Of_frz hm, trivial⟩ ?_ hκ⟩
        rintro _ _ ⟨rfl, rfl⟩
        exact ⟨rfl, by simp⟩
      · rw [osel_neg (decide_eq_false hb)] at hN
        obtain ⟨h2, hN⟩ := oguard_some hN
        cases hN
        obtain ⟨n, rfl⟩ := Int.eq_ofNat_of_zero_le (show 0 ≤ n by omega)
        refine ⟨fun c _ => ⟨_, rfl⟩, fun κ hκ => news_ok (args := [.v (.int .i64 n), x, m]) (args0 := [.v (.int .i64 n), .roI .u8 key, .roI .u8 msg]) (R := fun v h' => ∃ c, n ≤ c ∧ v = .tup [.sl 0 0 1 0 n c, .v (.int .i64 0)] ∧ h' = [some [.arr n .u8 (blakeL n key msg)]]) ?_ (by rintro _ _ ⟨c, _, rfl, rfl⟩; exact ⟨rfl, rfl⟩) (fun g => rfl) ⟨Frz.same _, u8Of_frz hl, u8Of_frz hm, trivial⟩ ?_ hκ⟩
        · refine (ACall.capTup (κ := fun v h' => ∃ c, v = .tup [.sl 0 0 1 0 n c, .v (.int .i64 0)] ∧ h' = [some [.arr n .u8 (blakeL n key msg)]]) ?_).mono (by rintro _ _ ⟨⟨c, rfl, rfl⟩, hc⟩; exact ⟨c, hc _ _ _ _ _ _ _ rfl, rfl, rfl⟩)
          by_cases h0 : key.length = 0
          · exact rsum_nokey n key msg (by omega) h0 h2
          · exact rsum_key n key msg (by omega) (by omega) h2
        · rintro _ _ ⟨c, hc, rfl, rfl⟩
          exact ⟨c, by simpa using hc, rfl⟩
    · cases hN
theorem lives_val : (blakeL 64 [] [97, 98, 99]).getD 0 0 = 186 ∧ (blakeL 64 [] [97, 98, 99]).getD 1 0 = 128 ∧ (blakeL 64 [] [97, 98, 99]).getD 63 0 = 35 := by decide +kernel
theorem lives_spec : ACall Try.prog 22 [] [] fun v h' => v = .v (.bool true) := by
  refine bd (good7 0) Try.func22 ?_
  obtain ⟨h1, h2, h3⟩ := lives_val
  exact go7 (an h1 (an h2 h3)) trivial
end Go.Proofs.Ytfnfmbikooeiaaa

namespace Go.Proofs.Ytfnfmbikooeiaaa
open Go.Ax
theorem take_app {α : Type} (a b : List α) : (a ++ b).take (a.length + b.length) = a ++ b := List.take_of_length_le (by simp)
theorem take_blakeL (n : Nat) (key msg : List Int) : (blakeL n key msg).take n = blakeL n key msg := List.take_of_length_le (by simp [blakeL, digestL_len])
theorem blakeL_len (n : Nat) (key msg : List Int) : (blakeL n key msg).length = n := by simp [blakeL, digestL_len]
def F22 : List AV → Option AV
  | [] => some (.v (.bool true))
  | _ => none
theorem F22_eq : F22 [] = some (.v (.bool true)) := rfl
noncomputable def p5 : FuncId → Option (List AV → Option AV) := addPure p4 22 F22
noncomputable def c8 (k : Nat) : Cfg := ⟨Try.prog, k, p5, [], n7, none, []⟩
theorem c8_odd (k : Nat) : (c8 k).odd = [] := rfl
theorem c8_ro (k : Nat) : (c8 k).ro = [] := rfl
theorem c8_P (k : Nat) : (c8 k).P = Try.prog := rfl
theorem c8_pure (k : Nat) : (c8 k).pure = p5 := rfl
theorem c8_news (k : Nat) : (c8 k).news = n7 := rfl
theorem go8 {F A B : Prop} (f : F) (b : B) (h : F → A = B := by intro f; (repeat (first | simp only [c8_P, c8_odd, c8_ro, Nat.reduceBEq, reduceIte, Nat.reduceEqDiff, reduceCtorEq, ne_eq, if_true, if_false, exA, exA, tabs, exB, exD, buildA, rowOr, rowSetAt, rowAgg, mkAgg, AV.isAggV, AV.parts, AV.one, AV.solid, headSize, indexAddrA, indexA, fieldAddrA, fieldA, sliceA, boundsA, bndA, lenA, arrayAtA, rowOf, makeSliceA, intsOf, copyA, Nat.reduceAdd, Nat.reduceSub, Nat.reduceMul, Nat.reduceLeDiff, Nat.reduceLT, Nat.reduceGT, Int.reduceToNat, Int.reduceLE, Int.reduceLT, Int.reduceEq, Int.reduceNe, Int.reduceAdd, Int.reduceSub, Int.reduceMul, Int.reduceNeg, ite_true, ite_false, dite_true, take_app, take_blakeL, blakeL_len, c8_pure, c8_news, p5, F22_eq, p4, p3, p2, p1, F80_eq, F70_eq, F53_eq, F55_eq, F25_eq, F56_eq, F23_eq, n7, n6, n5, N57_eq, N27_eq, N20_eq, N21_eq, exR, f] | simp (maxSteps := 1000000) (disch := omega) only [exE, Int.toNat_natCast, Int.reduceToNat])); all_goals rfl) : A := Eq.mpr (h f) b
theorem good8 (k : Nat) : (c8 k).Good := by
  refine Cfg.Good.add (good7 k) ?_ k
  intro args v hF h κ hκ
  unfold F22 at hF
  split at hF
  · cases hF
    exact pure_call lives_spec (fun g => rfl) (fun g => rfl) h κ hκ
  · cases hF
theorem law_pieces (h m : List Int) (t : Int) (last : Bool) (hh : h.length = 8) (hm : m.length = 128) :
    ACall Try.prog 4 [.arr 8 .u64 h, .arr 128 .u8 m, .v (.int .u64 t), .v (.bool last)] [] fun v _ => v = .v (.bool true) := by
  refine bd (good8 0) Try.func4 ?_
  exact go8 (an hh hm) trivial
theorem law_nobody (b : List Int) : ACall Try.prog 8 [.roI .u8 b] [] fun v _ => v = .v (.bool true) := by
  refine bd (good8 0) Try.func8 ?_
  refine go8 nf ?_
  refine callC_fr [] (write_nil (.roI .u8 b)) rfl rfl List.nodup_nil ?_
  rintro _ _ ⟨rfl, rfl⟩
  refine go8 exG ?_
  refine callC_fr [] hsum_nil rfl rfl List.nodup_nil ?_
  rintro _ _ ⟨rfl, rfl⟩
  refine go8 exG ?_
  refine callC_fr [] fork_nil rfl rfl List.nodup_nil ?_
  rintro _ _ ⟨rfl, rfl⟩
  exact go8 exG trivial
theorem law_sums (n : Int) (key a b : List Int) (hl : key.length ≤ 1048576 ∧ a.length ≤ 1048576 ∧ b.length ≤ 1048576) :
    ACall Try.prog 3 [.v (.int .i64 n), .roI .u8 key, .roI .u8 a, .roI .u8 b] [] fun v _ => v = .v (.bool true) := by
  by_cases hb : n < 1 ∨ 64 < n ∨ 64 < key.length
  · refine bd (good8 0) Try.func3 ?_
    refine go8 nf ?_
    intros
    repeat' (first | omega | intro _ | refine And.intro ?_ ?_)
  · refine bd (good8 0) Try.func3 ?_
    refine go8 nf ?_
    repeat' (first | omega | intro _ | refine And.intro ?_ ?_)
end Go.Proofs.Ytfnfmbikooeiaaa
