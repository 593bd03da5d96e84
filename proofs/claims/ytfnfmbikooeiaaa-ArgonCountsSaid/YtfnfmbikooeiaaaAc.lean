/- Part of the proof. -/
import Derived.Test.YtfnfmbikooeiaaaAb
import Derived.Below
import Derived.ChangeSame
import Derived.OpenShut
import Derived.JoinedCond
import Derived.ChangeSlices
import Derived.Test.YtfnfmbikooeiaaaChecked
import Derived.KernelRfl
set_option linter.unusedSimpArgs false
set_option linter.unusedVariables false
set_option maxHeartbeats 4000000
set_option maxRecDepth 100000
namespace Go.Ax
theorem z37 {C : Cfg} {e : Env} {h : List Blk} {L : List (Nat × AV)} (B : List Nat) (hL : ∀ p ∈ L, Frz h B (get e p.1) p.2) (hB : ∀ b ∈ B, live h b) : Weak C ⟨e, h⟩ ⟨envL L, kill h B⟩ := by
  intro E w0 F n r0 a w hk hr
  obtain ⟨ρ, hr⟩ := hr
  have hownk : ∀ r, own ρ (kill h B) r → own ρ h r ∧ ∀ b ∈ B, ρ[b]? ≠ some (some r) := by
    rintro r ⟨b, hb, ps, hp⟩
    have hbB : b ∉ B := fun hbB => zbk B h b hbB ps hp
    rw [Jz B h b hbB] at hp
    refine ⟨⟨b, hb, ps, hp⟩, ?_⟩
    intro b' hb' he
    exact hbB (hr.hp.inj b b' r hb he ⟨ps, hp⟩ (hB b' hb') ▸ hb')
  have hX : ∀ r, XOf E ρ (kill h B) r → XOf E ρ h r ∧ ∀ b ∈ B, ρ[b]? ≠ some (some r) := by
    rintro r (h1 | h1)
    · exact ⟨.inl h1, fun b hb he => (hr.el r h1).2 ⟨b, he, hB b hb⟩⟩
    · exact ⟨.inr (hownk r h1).1, (hownk r h1).2⟩
  have hhk : HRel (XOf E ρ (kill h B)) ρ (kill h B) w := by
    refine ⟨by rw [zlf]; exact hr.hp.len, ?_, ?_⟩
    · intro b ps hp
      have hbB : b ∉ B := fun hbB => zbk B h b hbB ps hp
      rw [Jz B h b hbB] at hp
      exact (hr.hp.blk b ps hp).keep Keep.refl (fun r _ hr => (hX r hr).1) (fun _ _ h => h) (fun _ _ => rfl)
    · rintro b b' r hb hb' ⟨ps, hp⟩ ⟨ps', hp'⟩
      have hbB : b ∉ B := fun hbB => zbk B h b hbB ps hp
      have hbB' : b' ∉ B := fun hbB => zbk B h b' hbB ps' hp'
      rw [Jz B h _ hbB] at hp
      rw [Jz B h _ hbB'] at hp'
      exact hr.hp.inj b b' r hb hb' ⟨ps, hp⟩ ⟨ps', hp'⟩
  refine ⟨ρ, ⟨fun i => ?_, hr.sz, hr.df, hhk, hr.fr, fun r h => hr.ow r (hownk r h).1, fun r h => ⟨(hr.el r h).1, fun h2 => (hr.el r h).2 (hownk r h2).1⟩, hr.ex⟩⟩
  rcases zd2 L i with h1 | h1
  · simp only [h1, AV.relV]
  · exact hL _ h1 (XOf E ρ h) (XOf E ρ (kill h B)) w ρ _ hr.hp hX (hr.tm i)
theorem Frz.agg {h : List Blk} {B : List Nat} {b : Nat} {ps : List AV} (hb : b ∈ B) (he : row h b = some ps) (hr : ∀ f, renL f ps = ps) : Frz h B (.ptr b 0 0) (.rop (.agg ps)) := by
  intro X X' w ρ v hh hx hv
  simp only [AV.relV, AV.rel] at hv
  obtain ⟨r, hr1, hv⟩ := hv
  have hv : v = .pointer (some ⟨r, 0, none⟩) := by simpa using hv
  subst hv
  have h1 := hh.blk b _ (Y7 he)
  rw [hr1] at h1
  obtain ⟨c, e, fz, h2, h3, cs, post, h4, h5⟩ := h1
  simp only [AV.relV, AV.rel]
  have h6 : Zr X w [] ps cs := by
    refine zch (f := fun _ => ρ.length) ?_ ps cs (by rw [hr]; exact h5)
    intro b o hb
    rw [List.getElem?_eq_none (Nat.le_refl _)] at hb; cases hb
  refine ⟨⟨r, 0, none⟩, cs, rfl, rfl, ?_, Yt Keep.refl (fun r _ h => (hx r h).1) ps [] [] cs (fun _ _ h => h) h6, ⟨c, e, fz, h2, [], post, by simpa using h4, rfl⟩⟩
  intro hX
  exact (hx r hX).2 b hb hr1
section
variable {C : Cfg} {k : List KI} {Q : Exit → St → Prop}
def Cfg.withRo (C : Cfg) (ro : List Nat) : Cfg := { C with ro := ro, odd := [] }
theorem Cfg.Good.withRo (hC : C.Good) (ro : List Nat) : (C.withRo ro).Good := hC
theorem z5v (hC : C.Good) {id : Nat} {ops : Array Oper} {e : Env} {h : List Blk} {L : List (Nat × AV)} (B ro : List Nat) {α : Type} (S : α → St)
    (hL : ∀ p ∈ L, Frz h B (get e p.1) p.2) (hB : ∀ b ∈ B, live h b) (hok : zk7 (C.withRo ro) ops = true)
    (h1 : opsR (C.withRo ro) ops ops.toList [] ⟨envL L, kill h B⟩ (fun ex σ' => ex = .normal ∧ ∃ x, Weak C σ' (S x)))
    (h2 : ∀ x, cont C .normal k (S x) Q) (hrd : C.rd = none := by rfl) : oddR C id ops true k ⟨e, h⟩ Q := by
  intro E w0 F n r0 a w hk hd hr
  have hr2 := z37 (C := C) B hL hB E w0 F n r0 a w hk hr
  have h3 := zht (hC.withRo ro) (id := id) (d := true) (κ := fun ex σ' => ex = .normal ∧ ∃ x, Weak C σ' (S x)) hd (by rw [hok]; rfl) hr2 (.inl hrd) h1
  refine wpIn_mono h3 ?_
  rintro ex a' w' ⟨σ', ⟨rfl, x, hw⟩, hok'⟩
  exact ⟨S x, h2 x, hw E w0 F n r0 a' w' hk hok'⟩
end
end Go.Ax
namespace Go.Ax
theorem Frz.aggs {h : List Blk} {B : List Nat} {xs ys : List AV} (hs : ∀ x ∈ xs, x.solid = true) (hy : ∀ y ∈ ys, readOnly y = true) (hf : FrzL h B xs ys) : Frz h B (.agg xs) (.agg ys) := by
  intro X X' w ρ v hh hx hv
  simp only [AV.relV] at hv ⊢
  obtain ⟨cs, rfl, hv⟩ := hv
  refine ⟨cs, rfl, ?_⟩
  have key : ∀ (xs ys : List AV) (cs : List Value), (∀ x ∈ xs, x.solid = true) → (∀ y ∈ ys, readOnly y = true) → FrzL h B xs ys → Zr X w ρ xs cs → Zr X' w ρ ys cs := by
    intro xs
    induction xs with
    | nil =>
      intro ys cs _ _ hf hv
      cases ys with
      | nil => simpa only [Zr] using hv
      | cons y ys => exact hf.elim
    | cons x xs ih =>
      intro ys cs hs hy hf hv
      cases ys with
      | nil => exact hf.elim
      | cons y ys =>
        simp only [Zr] at hv ⊢
        obtain ⟨a, b, rfl, h1, h2⟩ := hv
        obtain ⟨u, rfl, h3⟩ := z0y (hs x (by simp)) hf.1 hh hx h1
        exact ⟨[u], b, rfl, z0h (hy y (by simp)) h3, ih ys b (fun x hx => hs x (by simp [hx])) (fun y h => hy y (by simp [h])) hf.2 h2⟩
  exact key xs ys _ hs hy hf hv
theorem zgd {h : List Blk} {x : AV} {l : List Int} (e : u8Of h x = some l) : x.solid = true := by
  unfold u8Of at e
  split at e
  · rfl
  · rfl
  · rfl
  · cases e
theorem znt {h : List Blk} {x y z u : AV} {a b c d : List Int} (ha : u8Of h x = some a) (hb : u8Of h y = some b) (hc : u8Of h z = some c) (hd : u8Of h u = some d) :
    Frz h (List.range h.length) (.agg [x, y, z, u]) (.agg [.roI .u8 a, .roI .u8 b, .roI .u8 c, .roI .u8 d]) := by
  refine Frz.aggs ?_ ?_ ⟨Qv ha, Qv hb, Qv hc, Qv hd, trivial⟩
  · intro v hv
    simp only [List.mem_cons, List.not_mem_nil, or_false] at hv
    rcases hv with rfl | rfl | rfl | rfl
    · exact zgd ha
    · exact zgd hb
    · exact zgd hc
    · exact zgd hd
  · intro v hv
    simp only [List.mem_cons, List.not_mem_nil, or_false] at hv
    rcases hv with rfl | rfl | rfl | rfl <;> rfl
def z73 : List AV → List AV → Prop
  | [], [] => True
  | p :: ps, q :: qs => (q = p ∨ (q = .any ∧ p.one = true)) ∧ z73 ps qs
  | _, _ => False
theorem zpa {X : Nat → Prop} {w : World} {ρ : List (Option Nat)} : ∀ {ps qs : List AV} {cs : List Value}, z73 ps qs → Zr X w ρ ps cs → Zr X w ρ qs cs
  | [], [], cs, _, h => h
  | [], _ :: _, cs, h, _ => h.elim
  | _ :: _, [], cs, h, _ => h.elim
  | p :: ps, q :: qs, cs, ha, h => by
    simp only [Zr] at h ⊢
    obtain ⟨a, b, h0, h1, h2⟩ := h
    refine ⟨a, b, h0, ?_, zpa ha.2 h2⟩
    rcases ha.1 with rfl | ⟨rfl, ho⟩
    · exact h1
    · have hl := zal p ρ a h1
      rw [zaq ho] at hl
      obtain ⟨v, rfl⟩ := List.length_eq_one_iff.1 hl
      simp only [AV.rel]
      exact ⟨v, rfl, zrz p ρ [v] h1 v (by simp)⟩
theorem Frz.aggAny {h : List Blk} {B : List Nat} {b : Nat} {ps qs : List AV} (hb : b ∈ B) (he : row h b = some ps) (hq : z73 ps qs) (hr : ∀ f, renL f qs = qs) : Frz h B (.ptr b 0 0) (.rop (.agg qs)) := by
  intro X X' w ρ v hh hx hv
  simp only [AV.relV, AV.rel] at hv
  obtain ⟨r, hr1, hv⟩ := hv
  have hv : v = .pointer (some ⟨r, 0, none⟩) := by simpa using hv
  subst hv
  have h1 := hh.blk b _ (Y7 he)
  rw [hr1] at h1
  obtain ⟨c, e, fz, h2, h3, cs, post, h4, h5⟩ := h1
  simp only [AV.relV, AV.rel]
  have h6 : Zr X w [] qs cs := by
    refine zch (f := fun _ => ρ.length) ?_ qs cs (by rw [hr]; exact zpa hq h5)
    intro b o hb
    rw [List.getElem?_eq_none (Nat.le_refl _)] at hb; cases hb
  refine ⟨⟨r, 0, none⟩, cs, rfl, rfl, ?_, Yt Keep.refl (fun r _ h => (hx r h).1) qs [] [] cs (fun _ _ h => h) h6, ⟨c, e, fz, h2, [], post, by simpa using h4, rfl⟩⟩
  intro hX
  exact (hx r hX).2 b hb hr1
theorem zkz {X : Nat → Prop} {w : World} {ρ : List (Option Nat)} {k : IntKind} (s : Nat) : ∀ (n : Nat) (f : List Int), f.length = n * s →
    Zr X w ρ ((List.range n).map fun i => AV.arr s k ((f.drop (i * s)).take s)) (f.map (Value.int k))
  | 0, f, h => by
    have : f = [] := List.eq_nil_of_length_eq_zero (by simpa using h)
    subst this
    simp [Zr]
  | n + 1, f, h => by
    have hs : s ≤ f.length := by rw [h, Nat.succ_mul]; omega
    have h1 : (f.drop s).length = n * s := by rw [List.length_drop, h, Nat.succ_mul]; omega
    have h2 := zkz (X := X) (w := w) (ρ := ρ) (k := k) s n (f.drop s) h1
    rw [List.range_succ_eq_map, List.map_cons, List.map_map]
    simp only [Zr]
    refine ⟨(f.take s).map (Value.int k), (f.drop s).map (Value.int k), by rw [← List.map_append, List.take_append_drop], ?_, ?_⟩
    · simp only [AV.rel, Nat.zero_mul, List.drop_zero, List.length_take, true_and]
      omega
    · have e : ((fun i => AV.arr s k (List.take s (List.drop (i * s) f))) ∘ Nat.succ) = fun i => AV.arr s k (List.take s (List.drop (i * s) (List.drop s f))) := by
        funext i
        simp only [Function.comp, List.drop_drop, Nat.succ_mul, Nat.succ_eq_add_one, Nat.add_comm s]
      rw [e]
      exact h2
theorem Frz.pages {h : List Blk} {B : List Nat} {b n cap s : Nat} {k : IntKind} {f : List Int} (hs : s ≠ 1) (hb : b ∈ B) (hrow : row h b = some [.arr (n * s) k f]) :
    Frz h B (.sl b 0 s 0 n cap) (.roL s ((List.range n).map fun i => AV.arr s k ((f.drop (i * s)).take s))) := by
  intro X X' w ρ v hh hx hv
  simp only [AV.relV, AV.rel] at hv ⊢
  have hbl := hh.blk b _ (Y7 hrow)
  have hsz : zcu ((List.range n).map fun i => AV.arr s k ((f.drop (i * s)).take s)) s := by
    intro y hy
    obtain ⟨i, _, rfl⟩ := List.mem_map.1 hy
    exact ⟨rfl, fun h => absurd h hs⟩
  have hlen : ((List.range n).map fun i => AV.arr s k ((f.drop (i * s)).take s)).length = n := by simp
  rw [hlen]
  rcases hv with ⟨r, o, hρ, hv, hroom, hcap, hle⟩ | ⟨hρ, hv, h1, h2⟩
  · rw [hρ] at hbl
    obtain ⟨c, e, fz, hc, hz, cs, post, hl, hp⟩ := hbl
    rw [Yv] at hp
    simp only [AV.rel] at hp
    obtain ⟨rfl, hfl⟩ := hp
    refine ⟨f.map (Value.int k), zkz s n f hfl, .inl ⟨⟨r, o, none⟩, cap, hv, rfl, fun hX => (hx r hX).2 b hb hρ, ?_, hle⟩, hsz⟩
    rcases hcap with hcap | ⟨rfl, _⟩
    · have hn : n = 0 := by omega
      subst hn
      have hf0 : f = [] := List.eq_nil_of_length_eq_zero (by simpa using hfl)
      subst hf0
      obtain ⟨c2, e2, fz2, hc2, ho2⟩ := hroom
      exact ⟨c2, e2, fz2, hc2, c2.toList.take o, c2.toList.drop o, by simp, by simp; omega⟩
    · exact ⟨c, e, fz, hc, [], post, by simpa using hl, rfl⟩
  · subst h1
    exact ⟨[], by simp [Zr], .inr ⟨rfl, none, hv⟩, hsz⟩
def ro2 : AV → Bool
  | .roI .. | .v _ | .roL .. | .rop _ => true
  | _ => false
theorem zvi {X : Nat → Prop} {w : World} {ρ ρ' : List (Option Nat)} {y : AV} {v : Value} (hr : ro2 y = true) (h : AV.relV X w ρ y v) : AV.rel X w ρ' y [v] := by
  match y, hr with
  | .roI k l, _ => simpa only [AV.relV, AV.rel] using h
  | .v x, _ => simpa only [AV.relV, AV.rel] using h
  | .roL s es, _ => simpa only [AV.relV, AV.rel] using h
  | .rop x, _ => simpa only [AV.relV, AV.rel] using h
theorem z0f {y : AV} (hr : ro2 y = true) : y.size = 1 ∧ (1 = 1 → y.one = true) := by
  match y, hr with
  | .roI k l, _ => exact ⟨rfl, fun _ => rfl⟩
  | .v x, _ => exact ⟨rfl, fun _ => rfl⟩
  | .roL s es, _ => exact ⟨rfl, fun _ => rfl⟩
  | .rop x, _ => exact ⟨rfl, fun _ => rfl⟩
theorem Frz.list2 {h : List Blk} {B : List Nat} {b off len cap : Nat} {ps es es0 : List AV} (hb : b ∈ B) (hrow : row h b = some ps) (ho : ∀ x ∈ ps, x.solid = true)
    (he : off + len ≤ ps.length) (hes : (ps.drop off).take len = es) (hf : FrzL h B es es0) (hr : ∀ y ∈ es0, ro2 y = true) : Frz h B (.sl b 0 1 off len cap) (.roL 1 es0) := by
  intro X X' w ρ v hh hx hv
  have hsz : zcu es0 1 := by
    intro y hy
    exact z0f (hr y hy)
  simp only [AV.relV, AV.rel] at hv ⊢
  have hbl := hh.blk b ps (Y7 hrow)
  have key : ∀ (xs ys : List AV) (cs : List Value), (∀ x ∈ xs, x.solid = true) → (∀ y ∈ ys, ro2 y = true) → FrzL h B xs ys → Zr X w ρ xs cs → Zr X' w [] ys cs ∧ xs.length = ys.length := by
    intro xs
    induction xs with
    | nil =>
      intro ys cs _ _ hf hc
      cases ys with
      | nil => exact ⟨by simpa only [Zr] using hc, rfl⟩
      | cons => exact hf.elim
    | cons x xs ih =>
      intro ys cs h1 h2 hf hc
      cases ys with
      | nil => exact hf.elim
      | cons y ys =>
        simp only [Zr] at hc ⊢
        obtain ⟨a, c, h0, h3, h4⟩ := hc
        have hy := h2 y (by simp)
        have hyo : y.one = true := (z0f hy).2 rfl
        obtain ⟨v, rfl, hv2⟩ := z0y (h1 x (by simp)) hf.1 hh hx h3
        obtain ⟨h5, h6⟩ := ih ys c (fun x hx => h1 x (by simp [hx])) (fun y hy => h2 y (by simp [hy])) hf.2 h4
        exact ⟨⟨[v], c, h0, zvi hy hv2, h5⟩, by simp [h6]⟩
  rcases hv with ⟨r, o, hρ, hv, hroom, hcap, hlen⟩ | ⟨hρ, hv, h1, h2⟩
  · rw [hρ] at hbl
    obtain ⟨c, e, fz, hc, hz, cs, post, hl, hp⟩ := hbl
    have hsplit : ps = ps.take off ++ (es ++ (ps.drop off).drop len) := by rw [← hes, List.take_append_drop, List.take_append_drop]
    rw [hsplit, Yu] at hp
    obtain ⟨a1, b1, h3, h4, h5⟩ := hp
    rw [Yu] at h5
    obtain ⟨a2, b2, h6, h7, h8⟩ := h5
    obtain ⟨h9, h10⟩ := key es es0 a2 (fun x hx => ho x (by rw [hsplit]; simp [hx])) hr hf h7
    have hlen2 : es0.length = len := by rw [← h10, ← hes]; simp; omega
    have ha1 : a1.length = off := by
      rw [J4 _ _ _ h4]
      have : ∀ l : List AV, (∀ x ∈ l, x.solid = true) → zbp l = l.length := by
        intro l
        induction l with
        | nil => intro _; rfl
        | cons x l ih =>
          intro h1
          have hx1 : x.one = true := by have := h1 x (by simp); unfold AV.solid at this; split at this <;> first | cases this | exact this
          simp only [zbp, zaq hx1, ih (fun y hy => h1 y (by simp [hy])), List.length_cons]; omega
      rw [this _ (fun x hx => ho x (List.mem_of_mem_take hx))]
      simp; omega
    refine ⟨a2, h9, ?_, hsz⟩
    left
    rw [hlen2]
    refine ⟨⟨r, o, none⟩, cap, hv, rfl, fun hX => (hx r hX).2 b hb hρ, ?_, hlen⟩
    have hcl : c.toList = a1 ++ a2 ++ (b2 ++ post) := by rw [hl, h3, h6]; simp
    rcases hcap with hcap | ⟨rfl, _⟩
    · have hl0 : len = 0 := by omega
      subst hl0
      obtain ⟨c2, e2, fz2, hc2, ho2⟩ := hroom
      rw [hc] at hc2
      cases hc2
      have : a2 = [] := by
        have := Ye h9 hsz
        rw [hlen2] at this
        exact List.eq_nil_of_length_eq_zero (by simpa using this)
      subst this
      exact ⟨c, e, fz, hc, c.toList.take o, c.toList.drop o, by simp, by simp; omega⟩
    · exact ⟨c, e, fz, hc, a1, b2 ++ post, hcl, by simp [ha1]⟩
  · subst h1 h2
    rw [hρ] at hbl
    have h0 : es = [] := by rw [← hes]; simp
    subst h0
    cases es0 with
    | nil => exact ⟨[], by simp only [Zr], .inr ⟨rfl, none, hv⟩, hsz⟩
    | cons => exact hf.elim
theorem Frz.struct2 {h : List Blk} {B : List Nat} {b : Nat} {ps qs : List AV} (hb : b ∈ B) (he : row h b = some ps) (hs : ∀ x ∈ ps, x.solid = true) (hq : ∀ y ∈ qs, ro2 y = true) (hf : FrzL h B ps qs) : Frz h B (.ptr b 0 0) (.rop (.agg qs)) := by
  intro X X' w ρ v hh hx hv
  simp only [AV.relV, AV.rel] at hv
  obtain ⟨r, hr1, hv⟩ := hv
  have hv : v = .pointer (some ⟨r, 0, none⟩) := by simpa using hv
  subst hv
  have h1 := hh.blk b _ (Y7 he)
  rw [hr1] at h1
  obtain ⟨c, e, fz, h2, h3, cs, post, h4, h5⟩ := h1
  have key : ∀ (xs ys : List AV) (cs : List Value), (∀ x ∈ xs, x.solid = true) → (∀ y ∈ ys, ro2 y = true) → FrzL h B xs ys → Zr X w ρ xs cs → Zr X' w [] ys cs := by
    intro xs
    induction xs with
    | nil =>
      intro ys cs _ _ hf hc
      cases ys with
      | nil => simpa only [Zr] using hc
      | cons => exact hf.elim
    | cons x xs ih =>
      intro ys cs h1 h2 hf hc
      cases ys with
      | nil => exact hf.elim
      | cons y ys =>
        simp only [Zr] at hc ⊢
        obtain ⟨a, c, h0, h3, h4⟩ := hc
        obtain ⟨v, rfl, hv2⟩ := z0y (h1 x (by simp)) hf.1 hh hx h3
        exact ⟨[v], c, h0, zvi (h2 y (by simp)) hv2, ih ys c (fun x hx => h1 x (by simp [hx])) (fun y hy => h2 y (by simp [hy])) hf.2 h4⟩
  simp only [AV.relV, AV.rel]
  refine ⟨⟨r, 0, none⟩, cs, rfl, rfl, ?_, key ps qs cs hs hq hf h5, ⟨c, e, fz, h2, [], post, by simpa using h4, rfl⟩⟩
  intro hX
  exact (hx r hX).2 b hb hr1
end Go.Ax
namespace Go.Ax
theorem zfl {C : Cfg} {e : Env} {h : List Blk} (k : IntKind) : Weak C ⟨e, h⟩ ⟨e, h ++ [some [.arr 0 k []]]⟩ := by
  rintro E w0 F n r0 a w _ ⟨ρ, hr⟩
  have hlen := hr.hp.len
  simp only at hlen
  have hext : ∀ (c : Nat) o, ρ[c]? = some o → (ρ ++ [none])[c]? = some o := fun c o h => Qj h
  have hown : ∀ r, own (ρ ++ [none]) (h ++ [some [.arr 0 k []]]) r → own ρ h r := by
    intro r ho
    rcases zhl hr.hp ho with h1 | h1
    · exact h1
    · cases h1
  have hX : ∀ r, r < w.heap.size → XOf E (ρ ++ [none]) (h ++ [some [.arr 0 k []]]) r → XOf E ρ h r := fun r _ h1 => h1.imp id (hown r)
  have hh : HRel (XOf E (ρ ++ [none]) (h ++ [some [.arr 0 k []]])) (ρ ++ [none]) (h ++ [some [.arr 0 k []]]) w := by
    have h0 := hr.hp.virtual (ps := [.arr 0 k []]) (by simp [Zr, AV.rel])
    exact ⟨h0.len, fun b ps hb => (h0.blk b ps hb).keep Keep.refl hX (fun _ _ h => h) (fun _ _ => rfl), h0.inj⟩
  exact ⟨ρ ++ [none], ⟨fun j => Jv Keep.refl hX _ ρ _ _ hext (hr.tm j), hr.sz, hr.df, hh, hr.fr, fun r h1 => hr.ow r (hown r h1), fun r h1 => ⟨(hr.el r h1).1, fun h2 => (hr.el r h1).2 (hown r h2)⟩, fun c o h => hext c o (hr.ex c o h)⟩⟩
theorem AWP.merge {C : Cfg} {c : Code} {κ : Exit → St → Prop} {σ : St} (σ' : St) (h : AWP C c (fun ex s => ex = .normal ∧ Weak C s σ') σ) (hk : κ .normal σ') : AWP C c κ σ :=
  fun E w0 F n r0 a w hk0 hd hr => wpIn_mono (h E w0 F n r0 a w hk0 hd hr) fun ex a' w' ⟨s, ⟨e, hw⟩, h2⟩ => ⟨σ', by rw [e]; exact hk, hw E w0 F n r0 a' w' hk0 h2⟩
section
variable {C : Cfg} {k : List KI} {σ : St} {Q : Exit → St → Prop}
theorem zir (hC : C.Good) {id : Nat} {ops : Array Oper} (p : Plan) (σ' : St) (hok : zbr C ops false p (Array.replicate ops.size false) = true)
    (hs : zk4 C ops p [] σ (fun ex s => ex = .normal ∧ Weak C s σ')) (hq : cont C .normal k σ' Q) (hrd : C.rd = none := by rfl) : oddR C id ops true k σ Q :=
  AWP.merge σ' (ztx (k := []) (Q := fun ex s => ex = .normal ∧ Weak C s σ') hC p hok hs hrd) hq
end
end Go.Ax
namespace Go.Ax
open Go.RowKit Go.WideShapes Go.ChangeShapes
section
variable {H : Type} {enc : TypeId × Value → H} {P : Program}
theorem zyc {f : Func} {s : ChangeSpec} {apart fresh handsOn again : Bool} {W W' : World} {args : Array Value} {v : Value} {ds gs : List (DataW H)} {before pa pv : List MemPlace}
    (hW : DataW.Whole enc P f.params.toList s.vars apart W args.toList ds gs before)
    (hres : ∀ (b : Nat) (sp : Nat → Bool) (hd : Bool), DataW.TrodAll enc P W' b sp hd f.resultTypes.toList (v.resultList f.resultTypes.size) (s.fn H (ds ++ gs)).results [])
    (hargs : ∀ sp : Nat → Bool, (∀ p ∈ before, sp p.block = true) → DataW.TrodAll enc P W' 0 sp true f.params.toList args.toList (s.fn H (ds ++ gs)).args pa)
    (hvars : ∀ sp : Nat → Bool, (∀ p ∈ before, sp p.block = true) → DataW.TrodVars enc P W' sp s.vars (s.fn H (ds ++ gs)).vars pv)
    (hps : before = pa ++ pv) (hb : Below W.heap.size W W')
    (hok : ∀ (j : Nat) (t : TypeId) (r : Value), f.resultTypes[j]? = some t → (v.resultList f.resultTypes.size)[j]? = some r → Value.okWide P W' .any 0 t r) :
    s.post enc P f apart fresh handsOn again W args v W' := by
  have hlt : ∀ p ∈ before, p.block < W.heap.size := fun p hp => hW.lt p hp
  have hold : ∀ p ∈ before, (fun b => decide (b < W.heap.size)) p.block = true := fun p hp => by simpa using hlt p hp
  refine ⟨ds, gs, before, [], pa, pv, hW, hres _ _ _, hargs _ hold, hvars _ hold, World.keptBut_mono (fun p hp => ⟨hp, ?_⟩) (hb.frame (· ∈ before)), fun _ => ?_⟩
  · rw [hps, List.mem_append] at hp
    exact Or.inr hp
  · obtain ⟨_, _, _, _, _, hz, hn⟩ := hW
    refine ⟨hok, _, _, ([] ++ pa) ++ pv, ⟨[] ++ pa, pv, trodAll_append (hargs _ (fun _ _ => rfl)) (hres _ _ _), hvars _ (fun _ _ => rfl), rfl, ?_, ?_⟩, ?_⟩
    · intro b off hp
      have hin : MemPlace.cell b off ∈ before := by rw [hps]; simpa using hp
      rw [hb.frozen (hlt _ hin)]
      exact hz b off hin
    · intro ha
      have := hn ha
      rw [hps] at this
      simpa using this
    · intro p hp _
      rw [hps]
      simpa using hp
theorem cell_below {B : Nat} {W W' : World} (hb : Below B W W') {a : Addr} {x : Value} (hB : W.heap.size ≤ B) (h : W.cell? a = some x) : W'.cell? a = some x := by
  have hl : a.block < W.heap.size := by
    unfold World.cell? at h
    rcases Nat.lt_or_ge a.block W.heap.size with h1 | h1
    · exact h1
    · rw [Array.getElem?_eq_none h1] at h; cases h
  unfold World.cell? at h ⊢
  rw [hb.block _ (by omega)]
  exact h
theorem zer {α β : Type} {f g : α → Option β} : ∀ {l : List α} {ys : List β}, (∀ x ∈ l, ∀ y ∈ ys, f x = some y → g x = some y) → l.mapM f = some ys → l.mapM g = some ys
  | [], ys, _, h => by simpa using h
  | x :: l, ys, hfg, h => by
    rw [List.mapM_cons] at h ⊢
    cases hx : f x with
    | none => rw [hx] at h; cases h
    | some y =>
      rw [hx] at h
      cases hl : l.mapM f with
      | none => rw [hl] at h; cases h
      | some zs =>
        rw [hl] at h
        cases h
        rw [hfg x (by simp) y (by simp) hx, zer (fun x hx y hy => hfg x (by simp [hx]) y (by simp [hy])) hl]
        rfl
theorem zw2 {B : Nat} {W W' : World} (hb : Below B W W') (hB : W.heap.size ≤ B) {base : Nat} {a : Addr} {n : Nat} {cs : List Value} (h : W.cells? base a n = some cs) : W'.cells? base a n = some cs := by
  unfold World.cells? at h ⊢
  split at h
  · rename_i h1
    rw [if_pos h1]
    exact zer (fun x _ y _ hy => cell_below hb hB hy) h
  · cases h
def zt6 (P : Program) (L : List TypeId) : Bool := L.all fun t => match P.underlying t with
  | some (.pointer e) => L.contains e
  | some (.slice e) => L.contains e && decide (0 < P.cellsOf e)
  | some (.struct fs) => fs.toList.all fun f => L.contains f.type
  | some (.array _ e) => L.contains e
  | some (.map _ e) => L.contains e
  | _ => true
theorem trod_below {B : Nat} {W W' : World} (hb : Below B W W') (hB : W.heap.size ≤ B) {L : List TypeId} (hL : zt6 P L = true) {base : Nat} {sp : Nat → Bool} :
    ∀ (fuel : Nat) (t : TypeId) (cs : List Value) (x : DataW H × List MemPlace), t ∈ L → DataW.trod enc P W base (fun _ => true) true fuel t cs = some x → (∀ p ∈ x.2, sp p.block = true) → DataW.trod enc P W' base sp true fuel t cs = some x := by
  intro fuel
  induction fuel with
  | zero => intro t cs x _ h; simp [DataW.trod] at h
  | succ fuel ih =>
    intro t cs x ht h hp
    have hc := (List.all_eq_true.1 hL) t ht
    have elem : ∀ (e : TypeId) (a : Addr) (n : Nat) y, e ∈ L → (W.cells? base a n).bind (DataW.trod enc P W base (fun _ => true) true fuel e) = some y → (∀ p ∈ y.2, sp p.block = true) →
        (W'.cells? base a n).bind (DataW.trod enc P W' base sp true fuel e) = some y := by
      intro e a n y he hy hp
      obtain ⟨cs, h1, h2⟩ := Option.bind_eq_some_iff.1 hy
      rw [zw2 hb hB h1]
      exact ih _ _ _ he h2 hp
    unfold DataW.trod at h ⊢
    split at h <;> try (first | exact h | (cases h; done))
    · obtain ⟨y, hy, rfl⟩ := Option.map_eq_some_iff.1 h
      rename_i e a hu
      rw [hu] at hc
      have he : e ∈ L := by simpa using hc
      rw [elem e a _ y he hy (fun p h1 => hp p (by simp [h1]))]
      rfl
    · rename_i e a len cap hu
      rw [hu] at hc
      have hce : e ∈ L ∧ 0 < P.cellsOf e := by simpa using hc
      simp only at h ⊢
      split at h
      · rename_i hcc
        rw [if_pos hcc]
        obtain ⟨elems, h1, h⟩ := Option.bind_eq_some_iff.1 h
        obtain ⟨rest, h2, rfl⟩ := Option.map_eq_some_iff.1 h
        simp only [if_true] at h2
        rw [zer (fun i _ y hy h3 => elem e _ _ y hce.1 h3 (fun p h4 => hp p (by simp only [List.mem_append, List.mem_flatMap]; exact .inr ⟨y, .inl hy, h4⟩))) h1]
        simp only [Option.bind_some]
        have hrl := mapM_some_length h2
        simp only [List.length_range] at hrl
        by_cases hsp : sp a.block = true
        · rw [if_pos hsp, zer (fun i _ y hy h3 => elem e _ _ y hce.1 h3 (fun p h4 => hp p (by simp only [List.mem_append, List.mem_flatMap]; exact .inr ⟨y, .inr hy, h4⟩))) h2]
          rfl
        · rw [if_neg hsp]
          have h0 : cap - len = 0 := by
            rcases Nat.eq_zero_or_pos (cap - len) with h0 | h0
            · exact h0
            · exfalso
              apply hsp
              have hpos : 0 < (elems.length + rest.length) * P.cellsOf e := Nat.mul_pos (by omega) hce.2
              exact hp (.cell a.block (a.off + 0)) (by simp only [List.mem_append]; left; unfold MemPlace.row; exact List.mem_map.2 ⟨0, List.mem_range.2 hpos, rfl⟩)
          have : rest = [] := List.eq_nil_of_length_eq_zero (by omega)
          subst this
          rfl
      · cases h
    · rename_i fs hu
      rw [hu] at hc
      have hce : ∀ f ∈ fs.toList, f.type ∈ L := fun f hf => by simpa using (List.all_eq_true.1 hc) f hf
      split at h
      · rename_i hcc
        rw [if_pos hcc]
        obtain ⟨xs, h1, rfl⟩ := Option.map_eq_some_iff.1 h
        rw [zer (fun f hf y hy h3 => ih _ _ _ (hce f hf) h3 (fun p h4 => hp p (by simp only [List.mem_flatMap]; exact ⟨y, hy, h4⟩))) h1]
        rfl
      · cases h
    · rename_i n e hu
      rw [hu] at hc
      have he : e ∈ L := by simpa using hc
      split at h
      · rename_i hcc
        rw [if_pos hcc]
        obtain ⟨xs, h1, rfl⟩ := Option.map_eq_some_iff.1 h
        rw [zer (fun f _ y hy h3 => ih _ _ _ he h3 (fun p h4 => hp p (by simp only [List.mem_flatMap]; exact ⟨y, hy, h4⟩))) h1]
        rfl
      · cases h
    · rename_i k e b hu
      rw [hu] at hc
      have he : e ∈ L := by simpa using hc
      split at h
      · rename_i es clock hes
        have hl : b < W.heap.size := by
          rcases Nat.lt_or_ge b W.heap.size with h1 | h1
          · exact h1
          · rw [Array.getElem?_eq_none h1] at hes; cases hes
        rw [hb.block b (by omega), hes]
        simp only at h ⊢
        split at h
        · rename_i hcc
          rw [if_pos hcc]
          obtain ⟨entries, h1, h2⟩ := Option.bind_eq_some_iff.1 h
          split at h2
          · rename_i hr
            cases h2
            have := zer (g := fun x => (keyOf P k x.key).bind fun key => if x.val.formed P e then (DataW.trod enc P W' base sp true fuel e x.val.cells.toList).map fun y => ((key, y.1), y.2) else none) (fun x _ y hy h3 => by
              obtain ⟨key, h4, h5⟩ := Option.bind_eq_some_iff.1 h3
              rw [h4]
              simp only [Option.bind_some]
              split at h5
              · rename_i hf
                rw [if_pos hf]
                obtain ⟨z, hz, rfl⟩ := Option.map_eq_some_iff.1 h5
                rw [ih _ _ _ he hz (fun p h6 => hp p (by simp only [List.mem_cons, List.mem_flatMap]; exact .inr ⟨_, hy, h6⟩))]
                rfl
              · cases h5) h1
            rw [this]
            simp only [Option.bind_some]
            rw [if_pos hr]
          · cases h2
        · cases h
      · cases h
theorem zja {W W' : World} (hb : Below W.heap.size W W') {L : List TypeId} (hL : zt6 P L = true) {base : Nat} {sp : Nat → Bool} : ∀ {ts : List TypeId} {vs : List Value} {ds : List (DataW H)} {ps : List MemPlace},
    (∀ t ∈ ts, t ∈ L) → DataW.TrodAll enc P W base (fun _ => true) true ts vs ds ps → (∀ p ∈ ps, sp p.block = true) → DataW.TrodAll enc P W' base sp true ts vs ds ps
  | [], [], [], ps, _, h, _ => h
  | t :: ts, v :: vs, d :: ds, ps, ht, h, hp => by
    obtain ⟨p, q, ⟨fuel, h1⟩, h2, rfl⟩ := h
    exact ⟨p, q, ⟨fuel, trod_below hb (Nat.le_refl _) hL fuel t _ _ (ht t (by simp)) h1 (fun x hx => hp x (by simp [hx]))⟩, zja hb hL (fun t h => ht t (by simp [h])) h2 (fun x hx => hp x (by simp [hx])), rfl⟩
  | [], [], _ :: _, _, _, h, _ => h.elim
  | [], _ :: _, _, _, _, h, _ => h.elim
  | _ :: _, [], _, _, _, h, _ => h.elim
  | _ :: _, _ :: _, [], _, _, h, _ => h.elim
end
end Go.Ax
namespace Go.Ax
open Go.RowKit Go.WideShapes Go.ChangeShapes
section
variable {H : Type} {enc : TypeId × Value → H} {P : Program} {W : World} {X : Nat → Prop}
theorem z66 {k : IntKind} {a : Addr} {zs : List Int} {len cap : Nat} (hlen : len ≤ cap) (hz : zs.length = cap) (hX : ∀ r, ¬ X r)
    (hc : ∀ i, i < zs.length → W.cell? (a.add i) = some (.int k (zs.getD i 0))) : roAt X W len ((zs.take len).map (Value.int k)) [.slice (some a) len cap] := by
  rcases Nat.eq_zero_or_pos cap with h0 | h0
  · subst h0
    obtain rfl : len = 0 := by omega
    exact .inr ⟨rfl, some a, rfl⟩
  · left
    have hsp0 : a.spot = none := by
      have h1 := hc 0 (by omega)
      have h2 : a.add 0 = a := by unfold Addr.add; rfl
      rw [h2] at h1
      unfold World.cell? at h1
      split at h1
      · by_cases hs : a.spot.isSome = true
        · rw [if_pos hs] at h1; cases h1
        · simpa using hs
      · cases h1
    have hget : ∀ i, i < zs.length → a.spot = none ∧ ∃ c e fz, W.heap[a.block]? = some (.cells c e fz) ∧ c[a.off + i]? = some (.int k (zs.getD i 0)) := by
      intro i hi
      have h1 := hc i hi
      obtain ⟨r, o, s⟩ := a
      simp only at hsp0
      subst hsp0
      rw [addr_add] at h1
      unfold World.cell? at h1
      simp only [Option.isSome_none, Bool.false_eq_true, if_false] at h1
      split at h1
      · rename_i c e fz hh
        exact ⟨rfl, c, e, fz, hh, h1⟩
      · cases h1
    obtain ⟨hsp, c, e, fz, hh, _⟩ := hget 0 (by omega)
    refine ⟨a, cap, rfl, hsp, hX _, ⟨c, e, fz, hh, c.toList.take a.off, c.toList.drop (a.off + len), ?_, ?_⟩, hlen⟩
    · have hv : (c.toList.drop a.off).take len = (zs.take len).map (Value.int k) := by
        apply List.ext_getElem?
        intro i
        rw [List.getElem?_take]
        split
        · rename_i hi
          obtain ⟨_, c', e', fz', hh', h2⟩ := hget i (by omega)
          rw [hh] at hh'
          cases hh'
          rw [List.getElem?_drop, Array.getElem?_toList, h2, List.getElem?_map, List.getElem?_take, if_pos hi]
          simp [List.getD_eq_getElem?_getD, show i < zs.length by omega]
        · rename_i hi
          rw [List.getElem?_eq_none (by simp; omega)]
      rw [← hv, List.append_assoc, ← List.drop_drop, List.take_append_drop, List.take_append_drop]
    · obtain ⟨_, c', e', fz', hh', h2⟩ := hget 0 (by omega)
      rw [hh] at hh'
      cases hh'
      have := (Array.getElem?_eq_some_iff.1 h2).1
      simp; omega
theorem zh9 {t e : TypeId} {k : IntKind} {fuel : Nat} {cs : List Value} {x : DataW H × List MemPlace} (ht : P.underlying t = some (.slice e)) (he : P.underlying e = some (.int k)) (hc : P.cellsOf e = 1)
    (hX : ∀ r, ¬ X r) (h : DataW.trod enc P W 0 (fun _ => true) true fuel t cs = some x) :
    ∃ l, AV.rel X W [] (.roI k l) cs ∧ ((l = [] ∧ x.1 = .nil) ∨ ∃ sp, x.1 = .slice (lits k l) sp) ∧ ∀ n ∈ l, (Lit.int k n).wf = true := by
  rcases open_ints ht he hc h with ⟨rfl, rfl⟩ | ⟨a, len, cap, zs, rfl, _, hlen, _, hz, rfl, hcell, hwf⟩
  · refine ⟨[], ?_, .inl ⟨rfl, rfl⟩, by simp⟩
    simp only [AV.rel, roAt]
    exact .inr ⟨rfl, none, rfl⟩
  · simp only [if_true] at hz
    refine ⟨zs.take len, ?_, .inr ⟨_, rfl⟩, fun n hn => hwf n (List.mem_of_mem_take hn)⟩
    simp only [AV.rel]
    have h1 : (zs.take len).length = len := by simp; omega
    have := z66 (W := W) (X := X) (k := k) hlen hz hX hcell
    rw [h1]
    exact this
theorem zp2 {f : FuncId} {fn : Func} {s : ChangeSpec} {tb : TypeId} {args : Array Value} {ds gs : List (DataW H)} {before : List MemPlace} {L : List TypeId} (hz : zt6 P L = true) (hL : ∀ t ∈ fn.params.toList, t ∈ L) (hres : fn.resultTypes = #[tb]) (htb : P.underlying tb = some .bool)
    (hvars : s.vars = []) (hfn : (s.fn H (ds ++ gs)) = { results := [.lit (.bool true)], args := ds })
    (hW : DataW.Whole enc P fn.params.toList s.vars false W args.toList ds gs before)
    {avs : List AV} (hargs : Z9 (XOf (fun _ => False) [] []) W [] avs args.toList) (hcall : Zs P f avs [] fun v _ => v = .v (.bool true)) :
    Calls P f args W fun e W' => ∃ v, e = .returned v ∧ s.post enc P fn false true false false W args v W' := by
  refine (hcall.2 (fun _ => False) W [] args hargs ⟨rfl, by simp, by simp⟩ (fun r h => h.elim)).mono ?_
  rintro en W' ⟨av, v, ρ', h', rfl, rfl, hv, _, _, _, hfr⟩
  simp only [AV.relV, AV.rel] at hv
  obtain ⟨hv, _⟩ := hv
  have hv : v = .bool true := by simpa using hv
  subst hv
  have hno : ∀ r, ¬ own ([] : List (Option Nat)) [] r := by rintro r ⟨b, hb, _⟩; simp at hb
  have hb : Below W.heap.size W W' := ⟨hfr.os, hfr.tape, hfr.out, hfr.size, fun k hk => hfr.same k hk (hno k)⟩
  have hW' := hW
  obtain ⟨p, q, hA, hV, rfl, _, _⟩ := hW
  rw [hvars] at hV
  obtain ⟨rfl, rfl⟩ := trodVars_none hV
  refine ⟨_, rfl, zyc (pa := p) (pv := []) hW' ?_ ?_ ?_ rfl hb ?_⟩
  · intro b sp hd
    rw [hfn, hres]
    exact trodAll_cons_mk (shut_bool htb _) trodAll_mk0
  · intro sp hsp
    rw [hfn]
    exact zja hb hz hL hA (fun x hx => hsp x (by simp [hx]))
  · intro sp hsp
    rw [hvars]
    simp only [hfn]
    rfl
  · rw [hres]
    have := ok_one (P := P) (W' := W') (f := fn) (v := .bool true) hres rfl (okWide_bool_mk htb true)
    rw [hres] at this
    exact this
end
end Go.Ax
namespace Go.Ax
open Go.RowKit Go.WideShapes Go.ChangeShapes
section
variable {H : Type} {enc : TypeId × Value → H} {P : Program} {W : World} {X : Nat → Prop}
theorem trod_struct {t : TypeId} {fuel n : Nat} {fs : Array Field} {cs : List Value} {x : DataW H × List MemPlace} (ht : P.underlying t = some (.struct fs)) (hct : P.cellsOf t = n)
    (h : DataW.trod enc P W 0 (fun _ => true) true fuel t cs = some x) : ∃ fuel', ∃ xs : List (DataW H × List MemPlace), cs.length = n ∧ x.1 = .agg (xs.map (·.1)) ∧
      fs.toList.mapM (fun f => DataW.trod enc P W 0 (fun _ => true) true fuel' f.type ((cs.drop f.offset).take (P.cellsOf f.type))) = some xs := by
  cases fuel with
  | zero => simp [DataW.trod] at h
  | succ fuel =>
    unfold DataW.trod at h
    rw [ht] at h
    simp only at h
    split at h
    · rename_i hl
      obtain ⟨xs, h1, h2⟩ := Option.map_eq_some_iff.1 h
      exact ⟨fuel, xs, by rw [hl, hct], by rw [← h2], h1⟩
    · cases h
theorem okWide_struct {t : TypeId} {fs : Array Field} {v : Value} (ht : P.underlying t = some (.struct fs)) (h : Value.okWide P W .any 0 t v) : ∃ cs, v = .agg cs := by
  unfold Value.okWide at h
  rw [ht] at h
  simp only at h
  obtain ⟨cs, rfl, _⟩ := h
  exact ⟨cs, rfl⟩
theorem zv0 {t e : TypeId} {k : IntKind} {f0 f1 f2 : Field} {v : Value} {d : DataW H} {ps : List MemPlace} (ht : P.underlying t = some (.struct #[f0, f1, f2])) (h0 : f0.type = e ∧ f0.offset = 0) (h1 : f1.type = e ∧ f1.offset = 1) (h2 : f2.type = e ∧ f2.offset = 2)
    (he : P.underlying e = some (.int k)) (hce : P.cellsOf e = 1) (hct : P.cellsOf t = 3) (hval : Value.okWide P W .any 0 t v) (hd : DataW.Trod enc P W 0 (fun _ => true) true t v d ps) :
    ∃ a b c, AV.relV X W [] (.agg [.v (.int k a), .v (.int k b), .v (.int k c)]) v ∧ ((Lit.int k a).wf = true ∧ (Lit.int k b).wf = true ∧ (Lit.int k c).wf = true) := by
  obtain ⟨cs, rfl⟩ := okWide_struct ht hval
  obtain ⟨fuel, hd⟩ := hd
  obtain ⟨fuel', xs, hl, _, hm⟩ := trod_struct ht hct hd
  have hl : cs.toList.length = 3 := hl
  obtain ⟨cs⟩ := cs
  match cs, hl with
  | [x, y, z], _ =>
    simp only [List.mapM_cons, List.mapM_nil, h0.1, h0.2, h1.1, h1.2, h2.1, h2.2, hce] at hm
    rw [show (Value.agg ⟨[x, y, z]⟩).cells.toList = [x, y, z] from rfl] at hm
    simp only [List.drop_zero, List.drop_succ_cons, List.take_succ_cons, List.take_zero, Option.bind_eq_bind, Option.pure_def, Option.bind_some, Option.bind_assoc] at hm
    obtain ⟨a, ha, hm⟩ := Option.bind_eq_some_iff.1 hm
    obtain ⟨b, hb, hm⟩ := Option.bind_eq_some_iff.1 hm
    obtain ⟨c, hc, hm⟩ := Option.bind_eq_some_iff.1 hm
    obtain ⟨m0, e0, _, w0⟩ := DataW.trod_int he ha
    obtain ⟨m1, e1, _, w1⟩ := DataW.trod_int he hb
    obtain ⟨m2, e2, _, w2⟩ := DataW.trod_int he hc
    simp only [List.cons.injEq, and_true] at e0 e1 e2
    subst e0 e1 e2
    refine ⟨m0, m1, m2, ?_, w0, w1, w2⟩
    simp only [AV.relV]
    refine ⟨_, rfl, ?_⟩
    simp only [Zr, AV.rel]
    exact ⟨_, _, rfl, ⟨rfl, rfl⟩, _, _, rfl, ⟨rfl, rfl⟩, _, _, rfl, ⟨rfl, rfl⟩, rfl⟩
theorem zps {t e u : TypeId} {k : IntKind} {f0 f1 f2 f3 : Field} {v : Value} {d : DataW H} {ps : List MemPlace} (ht : P.underlying t = some (.struct #[f0, f1, f2, f3])) (h0 : f0.type = e ∧ f0.offset = 0) (h1 : f1.type = e ∧ f1.offset = 1) (h2 : f2.type = e ∧ f2.offset = 2) (h3 : f3.type = e ∧ f3.offset = 3)
    (he : P.underlying e = some (.slice u)) (hce : P.cellsOf e = 1) (hu : P.underlying u = some (.int k)) (hcu : P.cellsOf u = 1) (hct : P.cellsOf t = 4) (hX : ∀ r, ¬ X r) (hval : Value.okWide P W .any 0 t v) (hd : DataW.Trod enc P W 0 (fun _ => true) true t v d ps) :
    ∃ a b c g d0 d1 d2 d3, AV.relV X W [] (.agg [.roI k a, .roI k b, .roI k c, .roI k g]) v ∧ d = .agg [d0, d1, d2, d3] ∧
      ((a = [] ∧ d0 = .nil) ∨ ∃ sp, d0 = .slice (lits k a) sp) ∧ ((b = [] ∧ d1 = .nil) ∨ ∃ sp, d1 = .slice (lits k b) sp) ∧ ((c = [] ∧ d2 = .nil) ∨ ∃ sp, d2 = .slice (lits k c) sp) ∧ ((g = [] ∧ d3 = .nil) ∨ ∃ sp, d3 = .slice (lits k g) sp) := by
  obtain ⟨cs, rfl⟩ := okWide_struct ht hval
  obtain ⟨fuel, hd⟩ := hd
  obtain ⟨fuel', xs, hl, hx, hm⟩ := trod_struct ht hct hd
  have hl : cs.toList.length = 4 := hl
  obtain ⟨cs⟩ := cs
  match cs, hl with
  | [x, y, z, w], _ =>
    simp only [List.mapM_cons, List.mapM_nil, h0.1, h0.2, h1.1, h1.2, h2.1, h2.2, h3.1, h3.2, hce] at hm
    rw [show (Value.agg ⟨[x, y, z, w]⟩).cells.toList = [x, y, z, w] from rfl] at hm
    simp only [List.drop_zero, List.drop_succ_cons, List.take_succ_cons, List.take_zero, Option.bind_eq_bind, Option.pure_def, Option.bind_some, Option.bind_assoc] at hm
    obtain ⟨a, ha, hm⟩ := Option.bind_eq_some_iff.1 hm
    obtain ⟨b, hb, hm⟩ := Option.bind_eq_some_iff.1 hm
    obtain ⟨c, hc, hm⟩ := Option.bind_eq_some_iff.1 hm
    obtain ⟨g, hg, hm⟩ := Option.bind_eq_some_iff.1 hm
    obtain ⟨l0, r0, s0, _⟩ := zh9 he hu hcu hX ha
    obtain ⟨l1, r1, s1, _⟩ := zh9 he hu hcu hX hb
    obtain ⟨l2, r2, s2, _⟩ := zh9 he hu hcu hX hc
    obtain ⟨l3, r3, s3, _⟩ := zh9 he hu hcu hX hg
    cases hm
    refine ⟨l0, l1, l2, l3, a.1, b.1, c.1, g.1, ?_, hx, s0, s1, s2, s3⟩
    simp only [AV.relV]
    refine ⟨_, rfl, ?_⟩
    simp only [Zr]
    exact ⟨[x], [y, z, w], rfl, r0, [y], [z, w], rfl, r1, [z], [w], rfl, r2, [w], [], rfl, r3, rfl⟩
end
end Go.Ax
namespace Go.Ax
theorem exA :
  (type_of% @zrf) ∧
  (type_of% @zon) ∧
  (type_of% @zkd) ∧
  (type_of% @zi7) ∧
  (type_of% @zmv) ∧
  (type_of% @zkc) ∧
  (type_of% @zmu) ∧
  (type_of% @zmw) ∧
  (type_of% @zg8) ∧
  (type_of% @zi9) ∧
  (type_of% @zke) ∧
  (type_of% @zi8) ∧
  (type_of% @z4c) ∧
  (type_of% @zup) ∧
  (type_of% @z4b) ∧
  (type_of% @z4d) ∧
  (type_of% @zok) ∧
  (type_of% @yap) ∧
  (type_of% @z98) ∧
  (type_of% @yae) ∧
  (type_of% @yac) ∧
  (type_of% @yab) ∧
  (type_of% @yao) ∧
  (type_of% @v_or) ∧
  (type_of% @z97) ∧
  (type_of% @zur) ∧
  (type_of% @yaa) ∧
  (type_of% @z99) ∧
  (type_of% @yah) ∧
  (type_of% @yai) ∧
  (type_of% @yak) ∧
  (type_of% @yal) ∧
  (type_of% @yam) ∧
  (type_of% @yad) ∧
  (type_of% @v_un) ∧
  (type_of% @z4f) ∧
  (type_of% @zrg) ∧
  (type_of% @zol) ∧
  (type_of% @zzw) ∧
  (type_of% @zmt) ∧
  (type_of% @zzy) ∧
  (type_of% @zms) ∧
  (type_of% @zzx) ∧
  (type_of% @zre) ∧
  (type_of% @zzz) ∧
  (type_of% @yaj) ∧
  (type_of% @yaf) ∧
  (type_of% @yag) ∧
  (type_of% @z4g) ∧
  (type_of% @zz0) ∧
  (type_of% @yan) ∧
  (type_of% @zzv) ∧
  (type_of% @zmq) ∧
  (type_of% @zkf) ∧
  (type_of% @zuq) ∧
  (type_of% @z4e) ∧
  (type_of% @zv4) ∧
  (type_of% @zv3) ∧
  (type_of% @z0l) ∧
  (type_of% @ya7) ∧
  (type_of% @ya8) ∧
  (type_of% @z0q) ∧
  (type_of% @zm9) ∧
  (type_of% @z0t) ∧
  (type_of% @zww) ∧
  (type_of% @z1e) ∧
  (type_of% @z6x) ∧
  (type_of% @zwy) ∧
  (type_of% @z00) ∧
  (type_of% @znh) ∧
  (type_of% @zlr) ∧
  (type_of% @zhx) ∧
  (type_of% @zg3) ∧
  (type_of% @zjp) ∧
  (type_of% @zsj) ∧
  (type_of% @zsi) ∧
  (type_of% @yce) ∧
  (type_of% @ybr) ∧
  (type_of% @yb3) ∧
  (type_of% @ybx) ∧
  (type_of% @ybw) ∧
  (type_of% @ycc) ∧
  (type_of% @b_or) ∧
  (type_of% @ybq) ∧
  (type_of% @yb8) ∧
  (type_of% @yb2) ∧
  (type_of% @yb4) ∧
  (type_of% @yb5) ∧
  (type_of% @yb6) ∧
  (type_of% @yb7) ∧
  (type_of% @ybu) ∧
  (type_of% @ybt) ∧
  (type_of% @ybv) ∧
  (type_of% @ybs) ∧
  (type_of% @yca) ∧
  (type_of% @yb9) ∧
  (type_of% @yb1) ∧
  (type_of% @yb0) ∧
  (type_of% @ybz) ∧
  (type_of% @yby) ∧
  (type_of% @ycd) ∧
  (type_of% @ycb) ∧
  (type_of% @yas) ∧
  (type_of% @yaq) ∧
  (type_of% @yar) ∧
  (type_of% @yba) ∧
  (type_of% @zom) ∧
  (type_of% @zvh) ∧
  (type_of% @zm0) ∧
  (type_of% @zm3) ∧
  (type_of% @zm2) ∧
  (type_of% @zse) ∧
  (type_of% @zsf) ∧
  (type_of% @zsd) ∧
  (type_of% @zp6) ∧
  (type_of% @holds_none) ∧
  (type_of% @zna) ∧
  (type_of% @zjg) ∧
  (type_of% @zje) ∧
  (type_of% @zjf) ∧
  (type_of% @zm8) ∧
  (type_of% @zku) ∧
  (type_of% @zu7) ∧
  (type_of% @zz9) ∧
  (type_of% @zrw) ∧
  (type_of% @zu9) ∧
  (type_of% @z0a) ∧
  (type_of% @zu8) ∧
  (type_of% @zva) ∧
  (type_of% @zov) ∧
  (type_of% @zk0) ∧
  (type_of% @zjh) ∧
  (type_of% @zph) ∧
  (type_of% @zpf) ∧
  (type_of% @zm7) ∧
  (type_of% @zpg) ∧
  (type_of% @zot) ∧
  (type_of% @zs1) ∧
  (type_of% @zwz) ∧
  (type_of% @zs3) ∧
  (type_of% @zw0) ∧
  (type_of% @zjn) ∧
  (type_of% @zlq) ∧
  (type_of% @zhw) ∧
  (type_of% @zjo) ∧
  (type_of% @zvz) ∧
  (type_of% @zsk) ∧
  (type_of% @zog) ∧
  (type_of% @zfm) ∧
  (type_of% @zrd) ∧
  (type_of% @zoj) ∧
  (type_of% @zuo) ∧
  (type_of% @zvu) ∧
  (type_of% @zvv) ∧
  (type_of% @zsg) ∧
  (type_of% @zpq) ∧
  (type_of% @zsl) ∧
  (type_of% @zql) ∧
  (type_of% @zqj) ∧
  (type_of% @zqk) ∧
  (type_of% @zqh) ∧
  (type_of% @zqi) ∧
  (type_of% @zp9) ∧
  (type_of% @zsw) ∧
  (type_of% @zp8) ∧
  (type_of% @znb) ∧
  (type_of% @get_put) ∧
  (type_of% @zbm) ∧
  (type_of% @zvm) ∧
  (type_of% @z05) ∧
  (type_of% @z06) ∧
  (type_of% @zpv) ∧
  (type_of% @zpu) ∧
  (type_of% @zsm) ∧
  (type_of% @z7j) ∧
  (type_of% @zw9) ∧
  (type_of% @zw8) ∧
  (type_of% @z5w) ∧
  (type_of% @zso) ∧
  (type_of% @z0n) ∧
  (type_of% @z71) ∧
  (type_of% @z1n) ∧
  (type_of% @z70) ∧
  (type_of% @ycf) ∧
  (type_of% @z72) ∧
  (type_of% @zxp) ∧
  (type_of% @z77) ∧
  (type_of% @z76) ∧
  (type_of% @z1q) ∧
  (type_of% @zwg) ∧
  (type_of% @zpx) ∧
  (type_of% @zpy) ∧
  (type_of% @zsr) ∧
  (type_of% @zzr) ∧
  (type_of% @z5u) ∧
  (type_of% @zoo) ∧
  (type_of% @z0g) ∧
  (type_of% @zuw) ∧
  (type_of% @zuj) ∧
  (type_of% @zum) ∧
  (type_of% @zuk) ∧
  (type_of% @zul) ∧
  (type_of% @J6) ∧
  (type_of% @Jl) ∧
  (type_of% @Ja) ∧
  (type_of% @Qq) ∧
  (type_of% @zbf) ∧
  (type_of% @zcy) ∧
  (type_of% @zd7) ∧
  (type_of% @zcz) ∧
  (type_of% @zfo) ∧
  (type_of% @zfr) ∧
  (type_of% @zfq) ∧
  (type_of% @zie) ∧
  (type_of% @zfp) ∧
  (type_of% @zd8) ∧
  (type_of% @zea) ∧
  (type_of% @zd9) ∧
  (type_of% @zf0) ∧
  (type_of% @zit) ∧
  (type_of% @zf2) ∧
  (type_of% @zf1) ∧
  (type_of% @zf4) ∧
  (type_of% @zf3) ∧
  (type_of% @zcf) ∧
  (type_of% @ya4) ∧
  (type_of% @ya3) ∧
  (type_of% @ya2) ∧
  (type_of% @ya1) ∧
  (type_of% @ya0) ∧
  (type_of% @ybi) ∧
  (type_of% @z62) ∧
  (type_of% @ybh) ∧
  (type_of% @z04) ∧
  (type_of% @z45) ∧
  (type_of% @yav) ∧
  (type_of% @zz8) ∧
  (type_of% @ya6) ∧
  (type_of% @zsp) ∧
  (type_of% @zut) ∧
  (type_of% @zuu) ∧
  (type_of% @zz2) ∧
  (type_of% @zss) ∧
  (type_of% @zp5) ∧
  (type_of% @zrh) ∧
  (type_of% @zri) ∧
  (type_of% @zus) ∧
  (type_of% @zxn) ∧
  (type_of% @z5s) ∧
  (type_of% @z5t) :=
  ⟨@zrf, @zon, @zkd, @zi7, @zmv, @zkc, @zmu, @zmw, @zg8, @zi9, @zke, @zi8, @z4c, @zup, @z4b, @z4d, @zok, @yap, @z98, @yae, @yac, @yab, @yao, @v_or, @z97, @zur, @yaa, @z99, @yah, @yai, @yak, @yal, @yam, @yad, @v_un, @z4f, @zrg, @zol, @zzw, @zmt, @zzy, @zms, @zzx, @zre, @zzz, @yaj, @yaf, @yag, @z4g, @zz0, @yan, @zzv, @zmq, @zkf, @zuq, @z4e, @zv4, @zv3, @z0l, @ya7, @ya8, @z0q, @zm9, @z0t, @zww, @z1e, @z6x, @zwy, @z00, @znh, @zlr, @zhx, @zg3, @zjp, @zsj, @zsi, @yce, @ybr, @yb3, @ybx, @ybw, @ycc, @b_or, @ybq, @yb8, @yb2, @yb4, @yb5, @yb6, @yb7, @ybu, @ybt, @ybv, @ybs, @yca, @yb9, @yb1, @yb0, @ybz, @yby, @ycd, @ycb, @yas, @yaq, @yar, @yba, @zom, @zvh, @zm0, @zm3, @zm2, @zse, @zsf, @zsd, @zp6, @holds_none, @zna, @zjg, @zje, @zjf, @zm8, @zku, @zu7, @zz9, @zrw, @zu9, @z0a, @zu8, @zva, @zov, @zk0, @zjh, @zph, @zpf, @zm7, @zpg, @zot, @zs1, @zwz, @zs3, @zw0, @zjn, @zlq, @zhw, @zjo, @zvz, @zsk, @zog, @zfm, @zrd, @zoj, @zuo, @zvu, @zvv, @zsg, @zpq, @zsl, @zql, @zqj, @zqk, @zqh, @zqi, @zp9, @zsw, @zp8, @znb, @get_put, @zbm, @zvm, @z05, @z06, @zpv, @zpu, @zsm, @z7j, @zw9, @zw8, @z5w, @zso, @z0n, @z71, @z1n, @z70, @ycf, @z72, @zxp, @z77, @z76, @z1q, @zwg, @zpx, @zpy, @zsr, @zzr, @z5u, @zoo, @z0g, @zuw, @zuj, @zum, @zuk, @zul, @J6, @Jl, @Ja, @Qq, @zbf, @zcy, @zd7, @zcz, @zfo, @zfr, @zfq, @zie, @zfp, @zd8, @zea, @zd9, @zf0, @zit, @zf2, @zf1, @zf4, @zf3, @zcf, @ya4, @ya3, @ya2, @ya1, @ya0, @ybi, @z62, @ybh, @z04, @z45, @yav, @zz8, @ya6, @zsp, @zut, @zuu, @zz2, @zss, @zp5, @zrh, @zri, @zus, @zxn, @z5s, @z5t⟩
theorem exB :
  (type_of% @List.contains_nil.{0}) ∧
  (type_of% @List.contains_cons.{0}) ∧
  (type_of% @Bool.or_false) ∧
  (type_of% @Bool.false_or) ∧
  (type_of% @List.getElem?_toArray.{0}) ∧
  (type_of% @List.getD_cons_zero.{0}) ∧
  (type_of% @List.getD_cons_succ.{0}) ∧
  (type_of% @Option.map_some.{0,0}) ∧
  (type_of% @Option.bind_some.{0,0}) ∧
  (type_of% @Option.map_none.{0,0}) ∧
  (type_of% @Option.bind_none.{0,0}) ∧
  (type_of% @Option.some_or.{0}) ∧
  (type_of% @Option.or_none.{0}) ∧
  (type_of% @Option.none_or.{0}) ∧
  (type_of% @List.map_cons.{0,0}) ∧
  (type_of% @List.map_nil.{0,0}) ∧
  (type_of% @List.append_nil.{0}) ∧
  (type_of% @List.nil_append.{0}) ∧
  (type_of% @List.cons_append.{0}) ∧
  (type_of% @List.toList_toArray.{0}) ∧
  (type_of% @Option.some.injEq.{0}) ∧
  (type_of% @Bool.true_eq_false) ∧
  (type_of% @Bool.false_eq_true) ∧
  (type_of% @List.take_length.{0}) ∧
  (type_of% @List.drop_length.{0}) ∧
  (type_of% @Nat.min_self) ∧
  (type_of% @List.length_replicate.{0}) ∧
  (type_of% @List.length_append.{0}) ∧
  (type_of% @List.length_set.{0}) ∧
  (type_of% @List.length_map.{0,0}) ∧
  (type_of% @List.length_range) ∧
  (type_of% @List.length_take.{0}) ∧
  (type_of% @List.length_drop.{0}) ∧
  (type_of% @List.getElem?_cons_zero.{0}) ∧
  (type_of% @List.getElem?_cons_succ.{0}) ∧
  (type_of% @List.length_cons.{0}) ∧
  (type_of% @List.length_nil.{0}) ∧
  (type_of% @List.set_cons_zero.{0}) ∧
  (type_of% @List.set_cons_succ.{0}) ∧
  (type_of% @Nat.zero_add) ∧
  (type_of% @Nat.add_zero) ∧
  (type_of% @Nat.mul_one) ∧
  (type_of% @Nat.one_mul) ∧
  (type_of% @Nat.zero_mul) ∧
  (type_of% @Nat.mul_zero) ∧
  (type_of% @Nat.sub_zero) ∧
  (type_of% @Nat.le_refl) ∧
  (type_of% @Option.isSome_none.{0}) ∧
  (type_of% @Option.isSome_some.{0}) ∧
  (type_of% @Bool.not_true) ∧
  (type_of% @Bool.not_false) ∧
  (type_of% @Bool.not_not) ∧
  (type_of% @List.take_zero.{0}) ∧
  (type_of% @List.drop_zero.{0}) ∧
  (type_of% @List.tail_cons.{0}) ∧
  (type_of% @Int.ofNat_eq_natCast) ∧
  (type_of% @Int.cast_ofNat_Int) ∧
  (type_of% @List.take_succ_cons.{0}) ∧
  (type_of% @List.drop_succ_cons.{0}) ∧
  (type_of% @List.take_nil.{0}) ∧
  (type_of% @List.drop_nil.{0}) ∧
  (type_of% @List.flatten_cons.{0}) ∧
  (type_of% @List.flatten_nil.{0}) ∧
  (type_of% @List.all_cons.{0}) ∧
  (type_of% @List.all_nil.{0}) ∧
  (type_of% @Bool.and_true) ∧
  (type_of% @Bool.and_self) ∧
  (type_of% @Bool.true_and) :=
  ⟨@List.contains_nil, @List.contains_cons, @Bool.or_false, @Bool.false_or, @List.getElem?_toArray, @List.getD_cons_zero, @List.getD_cons_succ, @Option.map_some, @Option.bind_some, @Option.map_none, @Option.bind_none, @Option.some_or, @Option.or_none, @Option.none_or, @List.map_cons, @List.map_nil, @List.append_nil, @List.nil_append, @List.cons_append, @List.toList_toArray, @Option.some.injEq, @Bool.true_eq_false, @Bool.false_eq_true, @List.take_length, @List.drop_length, @Nat.min_self, @List.length_replicate, @List.length_append, @List.length_set, @List.length_map, @List.length_range, @List.length_take, @List.length_drop, @List.getElem?_cons_zero, @List.getElem?_cons_succ, @List.length_cons, @List.length_nil, @List.set_cons_zero, @List.set_cons_succ, @Nat.zero_add, @Nat.add_zero, @Nat.mul_one, @Nat.one_mul, @Nat.zero_mul, @Nat.mul_zero, @Nat.sub_zero, @Nat.le_refl, @Option.isSome_none, @Option.isSome_some, @Bool.not_true, @Bool.not_false, @Bool.not_not, @List.take_zero, @List.drop_zero, @List.tail_cons, @Int.ofNat_eq_natCast, @Int.cast_ofNat_Int, @List.take_succ_cons, @List.drop_succ_cons, @List.take_nil, @List.drop_nil, @List.flatten_cons, @List.flatten_nil, @List.all_cons, @List.all_nil, @Bool.and_true, @Bool.and_self, @Bool.true_and⟩
end Go.Ax
namespace Go.Ax
theorem exD :
  (type_of% @Go.Ax.zdb.eq_1) ∧
  (type_of% @Go.Ax.zdb.eq_2) ∧
  (type_of% @Go.Ax.zdb.eq_3) ∧
  (type_of% @Go.Ax.zgn.eq_1) ∧
  (type_of% @Go.Ax.zgn.eq_2) ∧
  (type_of% @beq_self_eq_true.{0}) ∧
  (type_of% @bne_self_eq_false.{0}) ∧
  (type_of% @Go.Ax.Qb.eq_1) ∧
  (type_of% @not_false_eq_true) ∧
  (type_of% @not_true_eq_false) ∧
  (type_of% @and_true) ∧
  (type_of% @true_and) ∧
  (type_of% @and_self) ∧
  (type_of% @decide_true) ∧
  (type_of% @decide_false) ∧
  (type_of% @decide_eq_true_eq) ∧
  (type_of% @Go.Ax.layA.eq_1) ∧
  (type_of% @Go.Ax.layA.eq_2) ∧
  (type_of% @Go.Ax.zei.eq_1) ∧
  (type_of% @Go.Ax.zei.eq_2) ∧
  (type_of% @Go.Ax.J3.eq_1) ∧
  (type_of% @Go.Ax.J3.eq_2) ∧
  (type_of% @Go.Ax.J3.eq_3) ∧
  (type_of% @Go.Ax.J3.eq_4) ∧
  (type_of% @Go.Ax.J3.eq_5) ∧
  (type_of% @Go.Ax.J3.eq_6) ∧
  (type_of% @Go.Ax.Ji.eq_1) ∧
  (type_of% @Go.Ax.Ji.eq_2) ∧
  (type_of% @Go.Ax.Ji.eq_3) ∧
  (type_of% @Go.Ax.Ji.eq_4) ∧
  (type_of% @Go.Ax.Yq.eq_1) ∧
  (type_of% @Go.Ax.Yq.eq_2) ∧
  (type_of% @Go.Ax.Yq.eq_3) ∧
  (type_of% @Go.Ax.Yq.eq_4) ∧
  (type_of% @Go.Ax.Y2.eq_1) ∧
  (type_of% @Go.Ax.Y2.eq_2) ∧
  (type_of% @Go.Ax.Y2.eq_3) ∧
  (type_of% @Go.Ax.Y2.eq_4) ∧
  (type_of% @Go.Ax.Y2.eq_5) ∧
  (type_of% @Go.Ax.AV.size.eq_1) ∧
  (type_of% @Go.Ax.AV.size.eq_2) ∧
  (type_of% @Go.Ax.AV.size.eq_3) ∧
  (type_of% @Go.Ax.AV.size.eq_4) ∧
  (type_of% @Go.Ax.AV.size.eq_5) ∧
  (type_of% @Go.Ax.AV.size.eq_6) ∧
  (type_of% @Go.Ax.AV.size.eq_7) ∧
  (type_of% @Go.Ax.AV.size.eq_8) ∧
  (type_of% @Go.Ax.AV.size.eq_9) ∧
  (type_of% @Go.Ax.AV.size.eq_10) ∧
  (type_of% @Go.Ax.AV.size.eq_11) ∧
  (type_of% @Go.Ax.AV.size.eq_12) ∧
  (type_of% @Go.Ax.zbp.eq_1) ∧
  (type_of% @Go.Ax.zbp.eq_2) ∧
  (type_of% @ge_iff_le.{0}) ∧
  (type_of% @gt_iff_lt.{0}) ∧
  (type_of% @or_true) ∧
  (type_of% @true_or) ∧
  (type_of% @or_false) ∧
  (type_of% @false_or) ∧
  (type_of% @not_true) ∧
  (type_of% @not_false_iff) ∧
  (type_of% @Go.Ax.Qz.eq_1) ∧
  (type_of% @Go.Ax.allOf.eq_1) ∧
  (type_of% @Go.Ax.allOf.eq_2) :=
  ⟨@Go.Ax.zdb.eq_1, @Go.Ax.zdb.eq_2, @Go.Ax.zdb.eq_3, @Go.Ax.zgn.eq_1, @Go.Ax.zgn.eq_2, @beq_self_eq_true.{0}, @bne_self_eq_false.{0}, @Go.Ax.Qb.eq_1, @not_false_eq_true, @not_true_eq_false, @and_true, @true_and, @and_self, @decide_true, @decide_false, @decide_eq_true_eq, @Go.Ax.layA.eq_1, @Go.Ax.layA.eq_2, @Go.Ax.zei.eq_1, @Go.Ax.zei.eq_2, @Go.Ax.J3.eq_1, @Go.Ax.J3.eq_2, @Go.Ax.J3.eq_3, @Go.Ax.J3.eq_4, @Go.Ax.J3.eq_5, @Go.Ax.J3.eq_6, @Go.Ax.Ji.eq_1, @Go.Ax.Ji.eq_2, @Go.Ax.Ji.eq_3, @Go.Ax.Ji.eq_4, @Go.Ax.Yq.eq_1, @Go.Ax.Yq.eq_2, @Go.Ax.Yq.eq_3, @Go.Ax.Yq.eq_4, @Go.Ax.Y2.eq_1, @Go.Ax.Y2.eq_2, @Go.Ax.Y2.eq_3, @Go.Ax.Y2.eq_4, @Go.Ax.Y2.eq_5, @Go.Ax.AV.size.eq_1, @Go.Ax.AV.size.eq_2, @Go.Ax.AV.size.eq_3, @Go.Ax.AV.size.eq_4, @Go.Ax.AV.size.eq_5, @Go.Ax.AV.size.eq_6, @Go.Ax.AV.size.eq_7, @Go.Ax.AV.size.eq_8, @Go.Ax.AV.size.eq_9, @Go.Ax.AV.size.eq_10, @Go.Ax.AV.size.eq_11, @Go.Ax.AV.size.eq_12, @Go.Ax.zbp.eq_1, @Go.Ax.zbp.eq_2, @ge_iff_le.{0}, @gt_iff_lt.{0}, @or_true, @true_or, @or_false, @false_or, @not_true, @not_false_iff, @Go.Ax.Qz.eq_1, @Go.Ax.allOf.eq_1, @Go.Ax.allOf.eq_2⟩
theorem exE :
  (type_of% @zj7) ∧
  (type_of% @zae) ∧
  (type_of% @z7z) ∧
  (type_of% @z7v) ∧
  (type_of% @z7w) ∧
  (type_of% @z7y) ∧
  (type_of% @z7x) ∧
  (type_of% @zxe) ∧
  (type_of% @zxf) ∧
  (type_of% @zxi) ∧
  (type_of% @zxj) ∧
  (type_of% @zxg) ∧
  (type_of% @zxh) ∧
  (type_of% @zlz) ∧
  (type_of% @zvy) ∧
  (type_of% @z1k) ∧
  (type_of% @zly) ∧
  (type_of% @z1l) :=
  ⟨@zj7, @zae, @z7z, @z7v, @z7w, @z7y, @z7x, @zxe, @zxf, @zxi, @zxj, @zxg, @zxh, @zlz, @zvy, @z1k, @zly, @z1l⟩
theorem exF :
  (type_of% @Jl) ∧
  (type_of% @J6) ∧
  (type_of% @get_put) ∧
  (type_of% @zbm) ∧
  (type_of% @Qq) ∧
  (type_of% @Ja) ∧
  (type_of% @and_self) ∧
  (type_of% @List.getD_cons_zero.{0}) ∧
  (type_of% @List.getD_cons_succ.{0}) ∧
  (type_of% @and_true) ∧
  (type_of% @true_and) :=
  ⟨@Jl, @J6, @get_put, @zbm, @Qq, @Ja, @and_self, @List.getD_cons_zero.{0}, @List.getD_cons_succ.{0}, @and_true, @true_and⟩
end Go.Ax
namespace Go.Proofs.Ytfnfmbikooeiaaa
open Go.Ax
theorem tb0 : szT Try.prog 3 = some 1 := by kernel_rfl
theorem tb1 : aggT Try.prog 3 = some false := by kernel_rfl
theorem tb2 : Zx Try.prog 3 = .int .i64 := by kernel_rfl
theorem tb3 : Z8 Try.prog 3 = some [.v (.int .i64 0)] := by kernel_rfl
theorem tb4 : szT Try.prog 4 = some 1 := by kernel_rfl
theorem tb5 : aggT Try.prog 4 = some false := by kernel_rfl
theorem tb6 : Zx Try.prog 4 = .bool := by kernel_rfl
theorem tb7 : Z8 Try.prog 4 = some [.v (.bool false)] := by kernel_rfl
theorem tb8 : szT Try.prog 5 = some 1 := by kernel_rfl
theorem tb9 : aggT Try.prog 5 = some false := by kernel_rfl
theorem tb10 : Zx Try.prog 5 = .int .u8 := by kernel_rfl
theorem tb11 : Z8 Try.prog 5 = some [.v (.int .u8 0)] := by kernel_rfl
theorem tb12 : szT Try.prog 9 = some 1 := by kernel_rfl
theorem tb13 : aggT Try.prog 9 = some false := by kernel_rfl
theorem tb14 : Zx Try.prog 9 = .string := by kernel_rfl
theorem tb15 : Z8 Try.prog 9 = some [.v (.string ⟨#[]⟩)] := by kernel_rfl
theorem tb16 : Qi Try.prog 9 = .str := by kernel_rfl
theorem tb17 : szT Try.prog 22 = some 1 := by kernel_rfl
theorem tb18 : aggT Try.prog 22 = some false := by kernel_rfl
theorem tb19 : Zx Try.prog 22 = .slice true := by kernel_rfl
theorem tb20 : Z8 Try.prog 22 = some [.v (.slice none 0 0)] := by kernel_rfl
theorem tb21 : Qi Try.prog 22 = .sl 1 false false := by kernel_rfl
theorem tb22 : Jd Try.prog 22 = some 1 := by kernel_rfl
theorem tb23 : Qf Try.prog 22 = some 1 := by kernel_rfl
theorem tb24 : zfb Try.prog 22 = some 1 := by kernel_rfl
theorem tb25 : zlo Try.prog 22 = some (.u8, 0) := by kernel_rfl
theorem tb26 : Q4 Try.prog 22 = some .u8 := by kernel_rfl
theorem tb27 : szT Try.prog 23 = some 1 := by kernel_rfl
theorem tb28 : aggT Try.prog 23 = some false := by kernel_rfl
theorem tb29 : Zx Try.prog 23 = .int .i64 := by kernel_rfl
theorem tb30 : Z8 Try.prog 23 = some [.v (.int .i64 0)] := by kernel_rfl
theorem tb31 : szT Try.prog 29 = some 1 := by kernel_rfl
theorem tb32 : aggT Try.prog 29 = some false := by kernel_rfl
theorem tb33 : Zx Try.prog 29 = .int .u64 := by kernel_rfl
theorem tb34 : Z8 Try.prog 29 = some [.v (.int .u64 0)] := by kernel_rfl
theorem tb35 : szT Try.prog 30 = some 8 := by kernel_rfl
theorem tb36 : aggT Try.prog 30 = some true := by kernel_rfl
theorem tb37 : Zx Try.prog 30 = .array := by kernel_rfl
theorem tb38 : Z8 Try.prog 30 = some [.arr 8 .u64 (List.replicate 8 0)] := by kernel_rfl
theorem tb39 : Qg Try.prog 30 = true := by kernel_rfl
theorem tb40 : Qi Try.prog 30 = .arr 8 1 false false := by kernel_rfl
theorem tb41 : zad Try.prog 30 = some (8, .u64) := by kernel_rfl
theorem tb42 : Yw Try.prog 30 = true := by kernel_rfl
theorem tb43 : ∀ i, Zv Try.prog 30 i = some (i * 1, 1, false) := by (intro i; kernel_rfl)
theorem tb44 : szT Try.prog 31 = some 128 := by kernel_rfl
theorem tb45 : aggT Try.prog 31 = some true := by kernel_rfl
theorem tb46 : Zx Try.prog 31 = .array := by kernel_rfl
theorem tb47 : Z8 Try.prog 31 = some [.arr 128 .u8 (List.replicate 128 0)] := by kernel_rfl
theorem tb48 : Qg Try.prog 31 = true := by kernel_rfl
theorem tb49 : Qi Try.prog 31 = .arr 128 1 false false := by kernel_rfl
theorem tb50 : zad Try.prog 31 = some (128, .u8) := by kernel_rfl
theorem tb51 : Yw Try.prog 31 = true := by kernel_rfl
theorem tb52 : ∀ i, Zv Try.prog 31 i = some (i * 1, 1, false) := by (intro i; kernel_rfl)
theorem tb53 : szT Try.prog 37 = some 1 := by kernel_rfl
theorem tb54 : aggT Try.prog 37 = some false := by kernel_rfl
theorem tb55 : Zx Try.prog 37 = .slice false := by kernel_rfl
theorem tb56 : Z8 Try.prog 37 = some [.v (.slice none 0 0)] := by kernel_rfl
theorem tb57 : Qi Try.prog 37 = .sl 1 false false := by kernel_rfl
theorem tb58 : Jd Try.prog 37 = some 1 := by kernel_rfl
theorem tb59 : Qf Try.prog 37 = some 24 := by kernel_rfl
theorem tb60 : zfb Try.prog 37 = some 24 := by kernel_rfl
theorem tb61 : Q4 Try.prog 37 = none := by kernel_rfl
theorem tb62 : szT Try.prog 38 = some 1 := by kernel_rfl
theorem tb63 : aggT Try.prog 38 = some false := by kernel_rfl
theorem tb64 : Zx Try.prog 38 = .pointer := by kernel_rfl
theorem tb65 : Z8 Try.prog 38 = some [.v (.pointer none)] := by kernel_rfl
theorem tb66 : szT Try.prog 49 = some 1 := by kernel_rfl
theorem tb67 : aggT Try.prog 49 = some false := by kernel_rfl
theorem tb68 : Zx Try.prog 49 = .int .u32 := by kernel_rfl
theorem tb69 : Z8 Try.prog 49 = some [.v (.int .u32 0)] := by kernel_rfl
theorem tb70 : szT Try.prog 52 = some 128 := by kernel_rfl
theorem tb71 : aggT Try.prog 52 = some true := by kernel_rfl
theorem tb72 : Zx Try.prog 52 = .array := by kernel_rfl
theorem tb73 : Z8 Try.prog 52 = some [.arr 128 .u64 (List.replicate 128 0)] := by kernel_rfl
theorem tb74 : Qg Try.prog 52 = true := by kernel_rfl
theorem tb75 : Qi Try.prog 52 = .arr 128 1 false false := by kernel_rfl
theorem tb76 : zad Try.prog 52 = some (128, .u64) := by kernel_rfl
theorem tb77 : Yw Try.prog 52 = true := by kernel_rfl
theorem tb78 : ∀ i, Zv Try.prog 52 i = some (i * 1, 1, false) := by (intro i; kernel_rfl)
theorem tb79 : szT Try.prog 53 = some 128 := by kernel_rfl
theorem tb80 : aggT Try.prog 53 = some true := by kernel_rfl
theorem tb81 : Zx Try.prog 53 = .array := by kernel_rfl
theorem tb82 : Z8 Try.prog 53 = some [.arr 128 .u64 (List.replicate 128 0)] := by kernel_rfl
theorem tb83 : Qg Try.prog 53 = true := by kernel_rfl
theorem tb84 : Qi Try.prog 53 = .arr 128 1 false false := by kernel_rfl
theorem tb85 : zad Try.prog 53 = some (128, .u64) := by kernel_rfl
theorem tb86 : Yw Try.prog 53 = true := by kernel_rfl
theorem tb87 : ∀ i, Zv Try.prog 53 i = some (i * 1, 1, false) := by (intro i; kernel_rfl)
theorem tb88 : szT Try.prog 59 = some 1 := by kernel_rfl
theorem tb89 : aggT Try.prog 59 = some false := by kernel_rfl
theorem tb90 : Zx Try.prog 59 = .int .u64 := by kernel_rfl
theorem tb91 : Z8 Try.prog 59 = some [.v (.int .u64 0)] := by kernel_rfl
theorem tb92 : szT Try.prog 60 = some 16 := by kernel_rfl
theorem tb93 : aggT Try.prog 60 = some true := by kernel_rfl
theorem tb94 : Zx Try.prog 60 = .array := by kernel_rfl
theorem tb95 : Z8 Try.prog 60 = some [.arr 16 .u64 (List.replicate 16 0)] := by kernel_rfl
theorem tb96 : Qg Try.prog 60 = true := by kernel_rfl
theorem tb97 : Qi Try.prog 60 = .arr 16 1 false false := by kernel_rfl
theorem tb98 : zad Try.prog 60 = some (16, .u64) := by kernel_rfl
theorem tb99 : Yw Try.prog 60 = true := by kernel_rfl
theorem yk9 : ∀ i, Zv Try.prog 60 i = some (i * 1, 1, false) := by (intro i; kernel_rfl)
theorem yk8 : szT Try.prog 65 = some 3 := by kernel_rfl
theorem yk7 : aggT Try.prog 65 = some true := by kernel_rfl
theorem yk6 : Zx Try.prog 65 = .struct := by kernel_rfl
theorem yk5 : Z8 Try.prog 65 = some [.v (.int .i64 0), .v (.int .i64 0), .v (.int .i64 0)] := by kernel_rfl
theorem yk4 : Yw Try.prog 65 = true := by kernel_rfl
theorem yk3 : Qg Try.prog 65 = false := by kernel_rfl
theorem yk2 : Zv Try.prog 65 0 = some (0, 1, false) := by kernel_rfl
theorem yk1 : Z0 Try.prog 65 0 = some (0, 1, false, false) := by kernel_rfl
theorem yk0 : Zv Try.prog 65 1 = some (1, 1, false) := by kernel_rfl
theorem ykz : Z0 Try.prog 65 1 = some (1, 1, false, false) := by kernel_rfl
theorem yky : Zv Try.prog 65 2 = some (2, 1, false) := by kernel_rfl
theorem ykx : Z0 Try.prog 65 2 = some (2, 1, false, false) := by kernel_rfl
theorem ykw : szT Try.prog 66 = some 3 := by kernel_rfl
theorem ykv : aggT Try.prog 66 = some true := by kernel_rfl
theorem yku : Zx Try.prog 66 = .struct := by kernel_rfl
theorem ykt : Z8 Try.prog 66 = some [.v (.int .i64 0), .v (.int .i64 0), .v (.int .i64 0)] := by kernel_rfl
theorem yks : Yw Try.prog 66 = true := by kernel_rfl
theorem ykr : Qg Try.prog 66 = false := by kernel_rfl
theorem ykq : Zv Try.prog 66 0 = some (0, 1, false) := by kernel_rfl
theorem ykp : Z0 Try.prog 66 0 = some (0, 1, false, false) := by kernel_rfl
theorem yko : Zv Try.prog 66 1 = some (1, 1, false) := by kernel_rfl
theorem ykn : Z0 Try.prog 66 1 = some (1, 1, false, false) := by kernel_rfl
theorem ykm : Zv Try.prog 66 2 = some (2, 1, false) := by kernel_rfl
theorem ykl : Z0 Try.prog 66 2 = some (2, 1, false, false) := by kernel_rfl
theorem ykk : szT Try.prog 67 = some 4 := by kernel_rfl
theorem ykj : aggT Try.prog 67 = some true := by kernel_rfl
theorem yki : Zx Try.prog 67 = .struct := by kernel_rfl
theorem ykh : Z8 Try.prog 67 = some [.v (.slice none 0 0), .v (.slice none 0 0), .v (.slice none 0 0), .v (.slice none 0 0)] := by kernel_rfl
theorem ykg : Yw Try.prog 67 = true := by kernel_rfl
theorem ykf : Qg Try.prog 67 = false := by kernel_rfl
theorem yke : Zv Try.prog 67 0 = some (0, 1, false) := by kernel_rfl
theorem ykd : Z0 Try.prog 67 0 = some (0, 1, false, false) := by kernel_rfl
theorem ykc : Zv Try.prog 67 1 = some (1, 1, false) := by kernel_rfl
theorem ykb : Z0 Try.prog 67 1 = some (1, 1, false, false) := by kernel_rfl
theorem yka : Zv Try.prog 67 2 = some (2, 1, false) := by kernel_rfl
theorem yj9 : Z0 Try.prog 67 2 = some (2, 1, false, false) := by kernel_rfl
theorem yj8 : Zv Try.prog 67 3 = some (3, 1, false) := by kernel_rfl
theorem yj7 : Z0 Try.prog 67 3 = some (3, 1, false, false) := by kernel_rfl
theorem yj6 : szT Try.prog 68 = some 4 := by kernel_rfl
theorem yj5 : aggT Try.prog 68 = some true := by kernel_rfl
theorem yj4 : Zx Try.prog 68 = .struct := by kernel_rfl
theorem yj3 : Z8 Try.prog 68 = some [.v (.slice none 0 0), .v (.slice none 0 0), .v (.slice none 0 0), .v (.slice none 0 0)] := by kernel_rfl
theorem yj2 : Yw Try.prog 68 = true := by kernel_rfl
theorem yj1 : Qg Try.prog 68 = false := by kernel_rfl
theorem yj0 : Zv Try.prog 68 0 = some (0, 1, false) := by kernel_rfl
theorem yjz : Z0 Try.prog 68 0 = some (0, 1, false, false) := by kernel_rfl
theorem yjy : Zv Try.prog 68 1 = some (1, 1, false) := by kernel_rfl
theorem yjx : Z0 Try.prog 68 1 = some (1, 1, false, false) := by kernel_rfl
theorem yjw : Zv Try.prog 68 2 = some (2, 1, false) := by kernel_rfl
theorem yjv : Z0 Try.prog 68 2 = some (2, 1, false, false) := by kernel_rfl
theorem yju : Zv Try.prog 68 3 = some (3, 1, false) := by kernel_rfl
theorem yjt : Z0 Try.prog 68 3 = some (3, 1, false, false) := by kernel_rfl
theorem yjs : szT Try.prog 74 = some 16 := by kernel_rfl
theorem yjr : aggT Try.prog 74 = some true := by kernel_rfl
theorem yjq : Zx Try.prog 74 = .array := by kernel_rfl
theorem yjp : Z8 Try.prog 74 = some [.arr 16 .u64 (List.replicate 16 0)] := by kernel_rfl
theorem yjo : Qg Try.prog 74 = true := by kernel_rfl
theorem yjn : Qi Try.prog 74 = .arr 16 1 false false := by kernel_rfl
theorem yjm : zad Try.prog 74 = some (16, .u64) := by kernel_rfl
theorem yjl : Yw Try.prog 74 = true := by kernel_rfl
theorem yjk : ∀ i, Zv Try.prog 74 i = some (i * 1, 1, false) := by (intro i; kernel_rfl)
theorem yjj : szT Try.prog 75 = some 1 := by kernel_rfl
theorem yji : aggT Try.prog 75 = some false := by kernel_rfl
theorem yjh : Zx Try.prog 75 = .slice false := by kernel_rfl
theorem yjg : Z8 Try.prog 75 = some [.v (.slice none 0 0)] := by kernel_rfl
theorem yjf : Qi Try.prog 75 = .sl 1 false false := by kernel_rfl
theorem yje : Jd Try.prog 75 = some 1 := by kernel_rfl
theorem yjd : Qf Try.prog 75 = some 8 := by kernel_rfl
theorem yjc : zfb Try.prog 75 = some 8 := by kernel_rfl
theorem yjb : zlo Try.prog 75 = some (.u64, 0) := by kernel_rfl
theorem yja : Q4 Try.prog 75 = some .u64 := by kernel_rfl
theorem yi9 : szT Try.prog 80 = some 11 := by kernel_rfl
theorem yi8 : aggT Try.prog 80 = some true := by kernel_rfl
theorem yi7 : Zx Try.prog 80 = .struct := by kernel_rfl
theorem yi6 : Z8 Try.prog 80 = some [.arr 8 .u64 (List.replicate 8 0), .v (.int .i64 0), .v (.slice none 0 0), .v (.int .u64 0)] := by kernel_rfl
theorem yi5 : Yw Try.prog 80 = true := by kernel_rfl
theorem yi4 : Qg Try.prog 80 = false := by kernel_rfl
theorem yi3 : Zv Try.prog 80 0 = some (0, 8, true) := by kernel_rfl
theorem yi2 : Z0 Try.prog 80 0 = some (0, 8, true, true) := by kernel_rfl
theorem yi1 : Zv Try.prog 80 1 = some (8, 1, false) := by kernel_rfl
theorem yi0 : Z0 Try.prog 80 1 = some (8, 1, false, false) := by kernel_rfl
theorem yiz : Zv Try.prog 80 2 = some (9, 1, false) := by kernel_rfl
theorem yiy : Z0 Try.prog 80 2 = some (9, 1, false, false) := by kernel_rfl
theorem yix : Zv Try.prog 80 3 = some (10, 1, false) := by kernel_rfl
theorem yiw : Z0 Try.prog 80 3 = some (10, 1, false, false) := by kernel_rfl
theorem yiv : szT Try.prog 81 = some 11 := by kernel_rfl
theorem yiu : aggT Try.prog 81 = some true := by kernel_rfl
theorem yit : Zx Try.prog 81 = .struct := by kernel_rfl
theorem yis : Z8 Try.prog 81 = some [.arr 8 .u64 (List.replicate 8 0), .v (.int .i64 0), .v (.slice none 0 0), .v (.int .u64 0)] := by kernel_rfl
theorem yir : Yw Try.prog 81 = true := by kernel_rfl
theorem yiq : Qg Try.prog 81 = false := by kernel_rfl
theorem yip : Zv Try.prog 81 0 = some (0, 8, true) := by kernel_rfl
theorem yio : Z0 Try.prog 81 0 = some (0, 8, true, true) := by kernel_rfl
theorem yin : Zv Try.prog 81 1 = some (8, 1, false) := by kernel_rfl
theorem yim : Z0 Try.prog 81 1 = some (8, 1, false, false) := by kernel_rfl
theorem yil : Zv Try.prog 81 2 = some (9, 1, false) := by kernel_rfl
theorem yik : Z0 Try.prog 81 2 = some (9, 1, false, false) := by kernel_rfl
theorem yij : Zv Try.prog 81 3 = some (10, 1, false) := by kernel_rfl
theorem yii : Z0 Try.prog 81 3 = some (10, 1, false, false) := by kernel_rfl
theorem yih : szT Try.prog 87 = some 1 := by kernel_rfl
theorem yig : aggT Try.prog 87 = some false := by kernel_rfl
theorem yif : Zx Try.prog 87 = .pointer := by kernel_rfl
theorem yie : Z8 Try.prog 87 = some [.v (.pointer none)] := by kernel_rfl
theorem yid : szT Try.prog 88 = some 16 := by kernel_rfl
theorem yic : aggT Try.prog 88 = some true := by kernel_rfl
theorem yib : Zx Try.prog 88 = .array := by kernel_rfl
theorem yia : Z8 Try.prog 88 = some [.v (.pointer none), .v (.pointer none), .v (.pointer none), .v (.pointer none), .v (.pointer none), .v (.pointer none), .v (.pointer none), .v (.pointer none), .v (.pointer none), .v (.pointer none), .v (.pointer none), .v (.pointer none), .v (.pointer none), .v (.pointer none), .v (.pointer none), .v (.pointer none)] := by kernel_rfl
theorem yh9 : Qg Try.prog 88 = false := by kernel_rfl
theorem yh8 : Qi Try.prog 88 = .arr 16 1 false false := by kernel_rfl
theorem yh7 : Yw Try.prog 88 = true := by kernel_rfl
theorem yh6 : ∀ i, Zv Try.prog 88 i = some (i * 1, 1, false) := by (intro i; kernel_rfl)
theorem yh5 : szT Try.prog 90 = some 1 := by kernel_rfl
theorem yh4 : aggT Try.prog 90 = some false := by kernel_rfl
theorem yh3 : Zx Try.prog 90 = .pointer := by kernel_rfl
theorem yh2 : Z8 Try.prog 90 = some [.v (.pointer none)] := by kernel_rfl
theorem yh1 : Qi Try.prog 90 = .parr 16 1 := by kernel_rfl
theorem yh0 : szT Try.prog 92 = some 1 := by kernel_rfl
theorem yhz : aggT Try.prog 92 = some false := by kernel_rfl
theorem yhy : Zx Try.prog 92 = .pointer := by kernel_rfl
theorem yhx : Z8 Try.prog 92 = some [.v (.pointer none)] := by kernel_rfl
theorem yhw : szT Try.prog 95 = some 4 := by kernel_rfl
theorem yhv : aggT Try.prog 95 = some true := by kernel_rfl
theorem yhu : Zx Try.prog 95 = .struct := by kernel_rfl
theorem yht : Z8 Try.prog 95 = some [.v (.int .i64 0), .v (.int .i64 0), .v (.int .i64 0), .v (.int .i64 0)] := by kernel_rfl
theorem yhs : Yw Try.prog 95 = true := by kernel_rfl
theorem yhr : Qg Try.prog 95 = false := by kernel_rfl
theorem yhq : Zv Try.prog 95 0 = some (0, 1, false) := by kernel_rfl
theorem yhp : Z0 Try.prog 95 0 = some (0, 1, false, false) := by kernel_rfl
theorem yho : Zv Try.prog 95 1 = some (1, 1, false) := by kernel_rfl
theorem yhn : Z0 Try.prog 95 1 = some (1, 1, false, false) := by kernel_rfl
theorem yhm : Zv Try.prog 95 2 = some (2, 1, false) := by kernel_rfl
theorem yhl : Z0 Try.prog 95 2 = some (2, 1, false, false) := by kernel_rfl
theorem yhk : Zv Try.prog 95 3 = some (3, 1, false) := by kernel_rfl
theorem yhj : Z0 Try.prog 95 3 = some (3, 1, false, false) := by kernel_rfl
theorem yhi : szT Try.prog 96 = some 4 := by kernel_rfl
theorem yhh : aggT Try.prog 96 = some true := by kernel_rfl
theorem yhg : Zx Try.prog 96 = .struct := by kernel_rfl
theorem yhf : Z8 Try.prog 96 = some [.v (.int .i64 0), .v (.int .i64 0), .v (.int .i64 0), .v (.int .i64 0)] := by kernel_rfl
theorem yhe : Yw Try.prog 96 = true := by kernel_rfl
theorem yhd : Qg Try.prog 96 = false := by kernel_rfl
theorem yhc : Zv Try.prog 96 0 = some (0, 1, false) := by kernel_rfl
theorem yhb : Z0 Try.prog 96 0 = some (0, 1, false, false) := by kernel_rfl
theorem yha : Zv Try.prog 96 1 = some (1, 1, false) := by kernel_rfl
theorem yg9 : Z0 Try.prog 96 1 = some (1, 1, false, false) := by kernel_rfl
theorem yg8 : Zv Try.prog 96 2 = some (2, 1, false) := by kernel_rfl
theorem yg7 : Z0 Try.prog 96 2 = some (2, 1, false, false) := by kernel_rfl
theorem yg6 : Zv Try.prog 96 3 = some (3, 1, false) := by kernel_rfl
theorem yg5 : Z0 Try.prog 96 3 = some (3, 1, false, false) := by kernel_rfl
theorem yg4 : szT Try.prog 97 = some 1 := by kernel_rfl
theorem yg3 : aggT Try.prog 97 = some false := by kernel_rfl
theorem yg2 : Zx Try.prog 97 = .slice false := by kernel_rfl
theorem yg1 : Z8 Try.prog 97 = some [.v (.slice none 0 0)] := by kernel_rfl
theorem yg0 : Qi Try.prog 97 = .sl 1 false false := by kernel_rfl
theorem ygz : Jd Try.prog 97 = some 1 := by kernel_rfl
theorem ygy : Qf Try.prog 97 = some 24 := by kernel_rfl
theorem ygx : zfb Try.prog 97 = some 24 := by kernel_rfl
theorem ygw : Q4 Try.prog 97 = none := by kernel_rfl
theorem ygv : szT Try.prog 98 = some 5 := by kernel_rfl
theorem ygu : aggT Try.prog 98 = some true := by kernel_rfl
theorem ygt : Zx Try.prog 98 = .struct := by kernel_rfl
theorem ygs : Z8 Try.prog 98 = some [.v (.int .i64 0), .v (.int .i64 0), .v (.int .i64 0), .v (.slice none 0 0), .v (.int .i64 0)] := by kernel_rfl
theorem ygr : Yw Try.prog 98 = true := by kernel_rfl
theorem ygq : Qg Try.prog 98 = false := by kernel_rfl
theorem ygp : Zv Try.prog 98 0 = some (0, 3, true) := by kernel_rfl
theorem ygo : Z0 Try.prog 98 0 = some (0, 3, true, false) := by kernel_rfl
theorem ygn : Zv Try.prog 98 1 = some (3, 1, false) := by kernel_rfl
theorem ygm : Z0 Try.prog 98 1 = some (3, 1, false, false) := by kernel_rfl
theorem ygl : Zv Try.prog 98 2 = some (4, 1, false) := by kernel_rfl
theorem ygk : Z0 Try.prog 98 2 = some (4, 1, false, false) := by kernel_rfl
theorem ygj : szT Try.prog 99 = some 5 := by kernel_rfl
theorem ygi : aggT Try.prog 99 = some true := by kernel_rfl
theorem ygh : Zx Try.prog 99 = .struct := by kernel_rfl
theorem ygg : Z8 Try.prog 99 = some [.v (.int .i64 0), .v (.int .i64 0), .v (.int .i64 0), .v (.slice none 0 0), .v (.int .i64 0)] := by kernel_rfl
theorem ygf : Yw Try.prog 99 = true := by kernel_rfl
theorem yge : Qg Try.prog 99 = false := by kernel_rfl
theorem ygd : Zv Try.prog 99 0 = some (0, 3, true) := by kernel_rfl
theorem ygc : Z0 Try.prog 99 0 = some (0, 3, true, false) := by kernel_rfl
theorem ygb : Zv Try.prog 99 1 = some (3, 1, false) := by kernel_rfl
theorem yga : Z0 Try.prog 99 1 = some (3, 1, false, false) := by kernel_rfl
theorem yf9 : Zv Try.prog 99 2 = some (4, 1, false) := by kernel_rfl
theorem yf8 : Z0 Try.prog 99 2 = some (4, 1, false, false) := by kernel_rfl
theorem yf7 : szT Try.prog 100 = some 1 := by kernel_rfl
theorem yf6 : aggT Try.prog 100 = some false := by kernel_rfl
theorem yf5 : Zx Try.prog 100 = .slice false := by kernel_rfl
theorem yf4 : Z8 Try.prog 100 = some [.v (.slice none 0 0)] := by kernel_rfl
theorem yf3 : Qi Try.prog 100 = .sl 128 true true := by kernel_rfl
theorem yf2 : Jd Try.prog 100 = some 128 := by kernel_rfl
theorem yf1 : Qf Try.prog 100 = some 1024 := by kernel_rfl
theorem yf0 : Q4 Try.prog 100 = none := by kernel_rfl
theorem yfz : szT Try.prog 101 = some 1 := by kernel_rfl
theorem yfy : aggT Try.prog 101 = some false := by kernel_rfl
theorem yfx : Zx Try.prog 101 = .pointer := by kernel_rfl
theorem yfw : Z8 Try.prog 101 = some [.v (.pointer none)] := by kernel_rfl
theorem yfv : szT Try.prog 102 = some 9 := by kernel_rfl
theorem yfu : aggT Try.prog 102 = some true := by kernel_rfl
theorem yft : Zx Try.prog 102 = .struct := by kernel_rfl
theorem yfs : Z8 Try.prog 102 = some [.v (.int .i64 0), .v (.int .i64 0), .v (.int .i64 0), .v (.int .i64 0), .v (.slice none 0 0), .v (.int .i64 0), .v (.int .i64 0), .v (.int .i64 0), .v (.int .i64 0)] := by kernel_rfl
theorem yfr : Yw Try.prog 102 = true := by kernel_rfl
theorem yfq : Qg Try.prog 102 = false := by kernel_rfl
theorem yfp : Zv Try.prog 102 0 = some (0, 3, true) := by kernel_rfl
theorem yfo : Z0 Try.prog 102 0 = some (0, 3, true, false) := by kernel_rfl
theorem yfn : Zv Try.prog 102 1 = some (3, 1, false) := by kernel_rfl
theorem yfm : Z0 Try.prog 102 1 = some (3, 1, false, false) := by kernel_rfl
theorem yfl : Zv Try.prog 102 2 = some (4, 1, false) := by kernel_rfl
theorem yfk : Z0 Try.prog 102 2 = some (4, 1, false, false) := by kernel_rfl
theorem yfj : Zv Try.prog 102 3 = some (5, 1, false) := by kernel_rfl
theorem yfi : Z0 Try.prog 102 3 = some (5, 1, false, false) := by kernel_rfl
theorem yfh : Zv Try.prog 102 4 = some (6, 1, false) := by kernel_rfl
theorem yfg : Z0 Try.prog 102 4 = some (6, 1, false, false) := by kernel_rfl
theorem yff : Zv Try.prog 102 5 = some (7, 1, false) := by kernel_rfl
theorem yfe : Z0 Try.prog 102 5 = some (7, 1, false, false) := by kernel_rfl
theorem yfd : Zv Try.prog 102 6 = some (8, 1, false) := by kernel_rfl
theorem yfc : Z0 Try.prog 102 6 = some (8, 1, false, false) := by kernel_rfl
theorem yfb : szT Try.prog 103 = some 9 := by kernel_rfl
theorem yfa : aggT Try.prog 103 = some true := by kernel_rfl
theorem ye9 : Zx Try.prog 103 = .struct := by kernel_rfl
theorem ye8 : Z8 Try.prog 103 = some [.v (.int .i64 0), .v (.int .i64 0), .v (.int .i64 0), .v (.int .i64 0), .v (.slice none 0 0), .v (.int .i64 0), .v (.int .i64 0), .v (.int .i64 0), .v (.int .i64 0)] := by kernel_rfl
theorem ye7 : Yw Try.prog 103 = true := by kernel_rfl
theorem ye6 : Qg Try.prog 103 = false := by kernel_rfl
theorem ye5 : Zv Try.prog 103 0 = some (0, 3, true) := by kernel_rfl
theorem ye4 : Z0 Try.prog 103 0 = some (0, 3, true, false) := by kernel_rfl
theorem ye3 : Zv Try.prog 103 1 = some (3, 1, false) := by kernel_rfl
theorem ye2 : Z0 Try.prog 103 1 = some (3, 1, false, false) := by kernel_rfl
theorem ye1 : Zv Try.prog 103 2 = some (4, 1, false) := by kernel_rfl
theorem ye0 : Z0 Try.prog 103 2 = some (4, 1, false, false) := by kernel_rfl
theorem yez : Zv Try.prog 103 3 = some (5, 1, false) := by kernel_rfl
theorem yey : Z0 Try.prog 103 3 = some (5, 1, false, false) := by kernel_rfl
theorem yex : Zv Try.prog 103 4 = some (6, 1, false) := by kernel_rfl
theorem yew : Z0 Try.prog 103 4 = some (6, 1, false, false) := by kernel_rfl
theorem yev : Zv Try.prog 103 5 = some (7, 1, false) := by kernel_rfl
theorem yeu : Z0 Try.prog 103 5 = some (7, 1, false, false) := by kernel_rfl
theorem yet : Zv Try.prog 103 6 = some (8, 1, false) := by kernel_rfl
theorem yer : Z0 Try.prog 103 6 = some (8, 1, false, false) := by kernel_rfl
theorem yeq : szT Try.prog 106 = some 6 := by kernel_rfl
theorem yep : aggT Try.prog 106 = some true := by kernel_rfl
theorem yeo : Zx Try.prog 106 = .array := by kernel_rfl
theorem yen : Z8 Try.prog 106 = some [.arr 6 .i64 (List.replicate 6 0)] := by kernel_rfl
theorem yem : Qg Try.prog 106 = true := by kernel_rfl
theorem yel : Qi Try.prog 106 = .arr 6 1 false false := by kernel_rfl
theorem yek : zad Try.prog 106 = some (6, .i64) := by kernel_rfl
theorem yej : Yw Try.prog 106 = true := by kernel_rfl
theorem yei : ∀ i, Zv Try.prog 106 i = some (i * 1, 1, false) := by (intro i; kernel_rfl)
theorem yeh : szT Try.prog 107 = some 4 := by kernel_rfl
theorem yeg : aggT Try.prog 107 = some true := by kernel_rfl
theorem yef : Zx Try.prog 107 = .array := by kernel_rfl
theorem yee : Z8 Try.prog 107 = some [.v (.slice none 0 0), .v (.slice none 0 0), .v (.slice none 0 0), .v (.slice none 0 0)] := by kernel_rfl
theorem yed : Qg Try.prog 107 = false := by kernel_rfl
theorem yec : Qi Try.prog 107 = .arr 4 1 false false := by kernel_rfl
theorem yeb : Yw Try.prog 107 = true := by kernel_rfl
theorem yea : ∀ i, Zv Try.prog 107 i = some (i * 1, 1, false) := by (intro i; kernel_rfl)
theorem yd9 : szT Try.prog 108 = some 1 := by kernel_rfl
theorem yd8 : aggT Try.prog 108 = some false := by kernel_rfl
theorem yd7 : Zx Try.prog 108 = .slice false := by kernel_rfl
theorem yd6 : Z8 Try.prog 108 = some [.v (.slice none 0 0)] := by kernel_rfl
theorem yd5 : Qi Try.prog 108 = .sl 1 false false := by kernel_rfl
theorem yd4 : Jd Try.prog 108 = some 1 := by kernel_rfl
theorem yd3 : Qf Try.prog 108 = some 8 := by kernel_rfl
theorem yd2 : zfb Try.prog 108 = some 8 := by kernel_rfl
theorem yd1 : zlo Try.prog 108 = some (.i64, 0) := by kernel_rfl
theorem yd0 : Q4 Try.prog 108 = some .i64 := by kernel_rfl
theorem ydz : szT Try.prog 109 = some 1 := by kernel_rfl
theorem ydy : aggT Try.prog 109 = some false := by kernel_rfl
theorem ydx : Zx Try.prog 109 = .pointer := by kernel_rfl
theorem ydw : Z8 Try.prog 109 = some [.v (.pointer none)] := by kernel_rfl
theorem ydv : Qi Try.prog 109 = .parr 16 1 := by kernel_rfl
theorem tz22 (c : Nat) : Jc Try.prog 22 c = some [.arr c .u8 (List.replicate c 0)] := by kernel_rfl
theorem tz37 (c : Nat) : Jc Try.prog 37 c = some [.lst 1 (List.replicate c (.v (.slice none 0 0)))] := by kernel_rfl
theorem tz75 (c : Nat) : Jc Try.prog 75 c = some [.arr c .u64 (List.replicate c 0)] := by kernel_rfl
theorem tz97 (c : Nat) : Jc Try.prog 97 c = some [.lst 1 (List.replicate c (.v (.slice none 0 0)))] := by kernel_rfl
theorem ydu (c : Nat) : Jc Try.prog 100 c = some [.arr (c * 128) .u64 (List.replicate c (List.replicate 128 0)).flatten] := by kernel_rfl
theorem ydt (c : Nat) : Jc Try.prog 108 c = some [.arr c .i64 (List.replicate c 0)] := by kernel_rfl
theorem tabs : (szT Try.prog 3 = some 1) ∧
  (aggT Try.prog 3 = some false) ∧
  (Zx Try.prog 3 = .int .i64) ∧
  (Z8 Try.prog 3 = some [.v (.int .i64 0)]) ∧
  (szT Try.prog 4 = some 1) ∧
  (aggT Try.prog 4 = some false) ∧
  (Zx Try.prog 4 = .bool) ∧
  (Z8 Try.prog 4 = some [.v (.bool false)]) ∧
  (szT Try.prog 5 = some 1) ∧
  (aggT Try.prog 5 = some false) ∧
  (Zx Try.prog 5 = .int .u8) ∧
  (Z8 Try.prog 5 = some [.v (.int .u8 0)]) ∧
  (szT Try.prog 9 = some 1) ∧
  (aggT Try.prog 9 = some false) ∧
  (Zx Try.prog 9 = .string) ∧
  (Z8 Try.prog 9 = some [.v (.string ⟨#[]⟩)]) ∧
  (Qi Try.prog 9 = .str) ∧
  (szT Try.prog 22 = some 1) ∧
  (aggT Try.prog 22 = some false) ∧
  (Zx Try.prog 22 = .slice true) ∧
  (Z8 Try.prog 22 = some [.v (.slice none 0 0)]) ∧
  (Qi Try.prog 22 = .sl 1 false false) ∧
  (Jd Try.prog 22 = some 1) ∧
  (Qf Try.prog 22 = some 1) ∧
  (zfb Try.prog 22 = some 1) ∧
  (zlo Try.prog 22 = some (.u8, 0)) ∧
  (Q4 Try.prog 22 = some .u8) ∧
  (szT Try.prog 23 = some 1) ∧
  (aggT Try.prog 23 = some false) ∧
  (Zx Try.prog 23 = .int .i64) ∧
  (Z8 Try.prog 23 = some [.v (.int .i64 0)]) ∧
  (szT Try.prog 29 = some 1) ∧
  (aggT Try.prog 29 = some false) ∧
  (Zx Try.prog 29 = .int .u64) ∧
  (Z8 Try.prog 29 = some [.v (.int .u64 0)]) ∧
  (szT Try.prog 30 = some 8) ∧
  (aggT Try.prog 30 = some true) ∧
  (Zx Try.prog 30 = .array) ∧
  (Z8 Try.prog 30 = some [.arr 8 .u64 (List.replicate 8 0)]) ∧
  (Qg Try.prog 30 = true) ∧
  (Qi Try.prog 30 = .arr 8 1 false false) ∧
  (zad Try.prog 30 = some (8, .u64)) ∧
  (Yw Try.prog 30 = true) ∧
  (∀ i, Zv Try.prog 30 i = some (i * 1, 1, false)) ∧
  (szT Try.prog 31 = some 128) ∧
  (aggT Try.prog 31 = some true) ∧
  (Zx Try.prog 31 = .array) ∧
  (Z8 Try.prog 31 = some [.arr 128 .u8 (List.replicate 128 0)]) ∧
  (Qg Try.prog 31 = true) ∧
  (Qi Try.prog 31 = .arr 128 1 false false) ∧
  (zad Try.prog 31 = some (128, .u8)) ∧
  (Yw Try.prog 31 = true) ∧
  (∀ i, Zv Try.prog 31 i = some (i * 1, 1, false)) ∧
  (szT Try.prog 37 = some 1) ∧
  (aggT Try.prog 37 = some false) ∧
  (Zx Try.prog 37 = .slice false) ∧
  (Z8 Try.prog 37 = some [.v (.slice none 0 0)]) ∧
  (Qi Try.prog 37 = .sl 1 false false) ∧
  (Jd Try.prog 37 = some 1) ∧
  (Qf Try.prog 37 = some 24) ∧
  (zfb Try.prog 37 = some 24) ∧
  (Q4 Try.prog 37 = none) ∧
  (szT Try.prog 38 = some 1) ∧
  (aggT Try.prog 38 = some false) ∧
  (Zx Try.prog 38 = .pointer) ∧
  (Z8 Try.prog 38 = some [.v (.pointer none)]) ∧
  (szT Try.prog 49 = some 1) ∧
  (aggT Try.prog 49 = some false) ∧
  (Zx Try.prog 49 = .int .u32) ∧
  (Z8 Try.prog 49 = some [.v (.int .u32 0)]) ∧
  (szT Try.prog 52 = some 128) ∧
  (aggT Try.prog 52 = some true) ∧
  (Zx Try.prog 52 = .array) ∧
  (Z8 Try.prog 52 = some [.arr 128 .u64 (List.replicate 128 0)]) ∧
  (Qg Try.prog 52 = true) ∧
  (Qi Try.prog 52 = .arr 128 1 false false) ∧
  (zad Try.prog 52 = some (128, .u64)) ∧
  (Yw Try.prog 52 = true) ∧
  (∀ i, Zv Try.prog 52 i = some (i * 1, 1, false)) ∧
  (szT Try.prog 53 = some 128) ∧
  (aggT Try.prog 53 = some true) ∧
  (Zx Try.prog 53 = .array) ∧
  (Z8 Try.prog 53 = some [.arr 128 .u64 (List.replicate 128 0)]) ∧
  (Qg Try.prog 53 = true) ∧
  (Qi Try.prog 53 = .arr 128 1 false false) ∧
  (zad Try.prog 53 = some (128, .u64)) ∧
  (Yw Try.prog 53 = true) ∧
  (∀ i, Zv Try.prog 53 i = some (i * 1, 1, false)) ∧
  (szT Try.prog 59 = some 1) ∧
  (aggT Try.prog 59 = some false) ∧
  (Zx Try.prog 59 = .int .u64) ∧
  (Z8 Try.prog 59 = some [.v (.int .u64 0)]) ∧
  (szT Try.prog 60 = some 16) ∧
  (aggT Try.prog 60 = some true) ∧
  (Zx Try.prog 60 = .array) ∧
  (Z8 Try.prog 60 = some [.arr 16 .u64 (List.replicate 16 0)]) ∧
  (Qg Try.prog 60 = true) ∧
  (Qi Try.prog 60 = .arr 16 1 false false) ∧
  (zad Try.prog 60 = some (16, .u64)) ∧
  (Yw Try.prog 60 = true) ∧
  (∀ i, Zv Try.prog 60 i = some (i * 1, 1, false)) ∧
  (szT Try.prog 65 = some 3) ∧
  (aggT Try.prog 65 = some true) ∧
  (Zx Try.prog 65 = .struct) ∧
  (Z8 Try.prog 65 = some [.v (.int .i64 0), .v (.int .i64 0), .v (.int .i64 0)]) ∧
  (Yw Try.prog 65 = true) ∧
  (Qg Try.prog 65 = false) ∧
  (Zv Try.prog 65 0 = some (0, 1, false)) ∧
  (Z0 Try.prog 65 0 = some (0, 1, false, false)) ∧
  (Zv Try.prog 65 1 = some (1, 1, false)) ∧
  (Z0 Try.prog 65 1 = some (1, 1, false, false)) ∧
  (Zv Try.prog 65 2 = some (2, 1, false)) ∧
  (Z0 Try.prog 65 2 = some (2, 1, false, false)) ∧
  (szT Try.prog 66 = some 3) ∧
  (aggT Try.prog 66 = some true) ∧
  (Zx Try.prog 66 = .struct) ∧
  (Z8 Try.prog 66 = some [.v (.int .i64 0), .v (.int .i64 0), .v (.int .i64 0)]) ∧
  (Yw Try.prog 66 = true) ∧
  (Qg Try.prog 66 = false) ∧
  (Zv Try.prog 66 0 = some (0, 1, false)) ∧
  (Z0 Try.prog 66 0 = some (0, 1, false, false)) ∧
  (Zv Try.prog 66 1 = some (1, 1, false)) ∧
  (Z0 Try.prog 66 1 = some (1, 1, false, false)) ∧
  (Zv Try.prog 66 2 = some (2, 1, false)) ∧
  (Z0 Try.prog 66 2 = some (2, 1, false, false)) ∧
  (szT Try.prog 67 = some 4) ∧
  (aggT Try.prog 67 = some true) ∧
  (Zx Try.prog 67 = .struct) ∧
  (Z8 Try.prog 67 = some [.v (.slice none 0 0), .v (.slice none 0 0), .v (.slice none 0 0), .v (.slice none 0 0)]) ∧
  (Yw Try.prog 67 = true) ∧
  (Qg Try.prog 67 = false) ∧
  (Zv Try.prog 67 0 = some (0, 1, false)) ∧
  (Z0 Try.prog 67 0 = some (0, 1, false, false)) ∧
  (Zv Try.prog 67 1 = some (1, 1, false)) ∧
  (Z0 Try.prog 67 1 = some (1, 1, false, false)) ∧
  (Zv Try.prog 67 2 = some (2, 1, false)) ∧
  (Z0 Try.prog 67 2 = some (2, 1, false, false)) ∧
  (Zv Try.prog 67 3 = some (3, 1, false)) ∧
  (Z0 Try.prog 67 3 = some (3, 1, false, false)) ∧
  (szT Try.prog 68 = some 4) ∧
  (aggT Try.prog 68 = some true) ∧
  (Zx Try.prog 68 = .struct) ∧
  (Z8 Try.prog 68 = some [.v (.slice none 0 0), .v (.slice none 0 0), .v (.slice none 0 0), .v (.slice none 0 0)]) ∧
  (Yw Try.prog 68 = true) ∧
  (Qg Try.prog 68 = false) ∧
  (Zv Try.prog 68 0 = some (0, 1, false)) ∧
  (Z0 Try.prog 68 0 = some (0, 1, false, false)) ∧
  (Zv Try.prog 68 1 = some (1, 1, false)) ∧
  (Z0 Try.prog 68 1 = some (1, 1, false, false)) ∧
  (Zv Try.prog 68 2 = some (2, 1, false)) ∧
  (Z0 Try.prog 68 2 = some (2, 1, false, false)) ∧
  (Zv Try.prog 68 3 = some (3, 1, false)) ∧
  (Z0 Try.prog 68 3 = some (3, 1, false, false)) ∧
  (szT Try.prog 74 = some 16) ∧
  (aggT Try.prog 74 = some true) ∧
  (Zx Try.prog 74 = .array) ∧
  (Z8 Try.prog 74 = some [.arr 16 .u64 (List.replicate 16 0)]) ∧
  (Qg Try.prog 74 = true) ∧
  (Qi Try.prog 74 = .arr 16 1 false false) ∧
  (zad Try.prog 74 = some (16, .u64)) ∧
  (Yw Try.prog 74 = true) ∧
  (∀ i, Zv Try.prog 74 i = some (i * 1, 1, false)) ∧
  (szT Try.prog 75 = some 1) ∧
  (aggT Try.prog 75 = some false) ∧
  (Zx Try.prog 75 = .slice false) ∧
  (Z8 Try.prog 75 = some [.v (.slice none 0 0)]) ∧
  (Qi Try.prog 75 = .sl 1 false false) ∧
  (Jd Try.prog 75 = some 1) ∧
  (Qf Try.prog 75 = some 8) ∧
  (zfb Try.prog 75 = some 8) ∧
  (zlo Try.prog 75 = some (.u64, 0)) ∧
  (Q4 Try.prog 75 = some .u64) ∧
  (szT Try.prog 80 = some 11) ∧
  (aggT Try.prog 80 = some true) ∧
  (Zx Try.prog 80 = .struct) ∧
  (Z8 Try.prog 80 = some [.arr 8 .u64 (List.replicate 8 0), .v (.int .i64 0), .v (.slice none 0 0), .v (.int .u64 0)]) ∧
  (Yw Try.prog 80 = true) ∧
  (Qg Try.prog 80 = false) ∧
  (Zv Try.prog 80 0 = some (0, 8, true)) ∧
  (Z0 Try.prog 80 0 = some (0, 8, true, true)) ∧
  (Zv Try.prog 80 1 = some (8, 1, false)) ∧
  (Z0 Try.prog 80 1 = some (8, 1, false, false)) ∧
  (Zv Try.prog 80 2 = some (9, 1, false)) ∧
  (Z0 Try.prog 80 2 = some (9, 1, false, false)) ∧
  (Zv Try.prog 80 3 = some (10, 1, false)) ∧
  (Z0 Try.prog 80 3 = some (10, 1, false, false)) ∧
  (szT Try.prog 81 = some 11) ∧
  (aggT Try.prog 81 = some true) ∧
  (Zx Try.prog 81 = .struct) ∧
  (Z8 Try.prog 81 = some [.arr 8 .u64 (List.replicate 8 0), .v (.int .i64 0), .v (.slice none 0 0), .v (.int .u64 0)]) ∧
  (Yw Try.prog 81 = true) ∧
  (Qg Try.prog 81 = false) ∧
  (Zv Try.prog 81 0 = some (0, 8, true)) ∧
  (Z0 Try.prog 81 0 = some (0, 8, true, true)) ∧
  (Zv Try.prog 81 1 = some (8, 1, false)) ∧
  (Z0 Try.prog 81 1 = some (8, 1, false, false)) ∧
  (Zv Try.prog 81 2 = some (9, 1, false)) ∧
  (Z0 Try.prog 81 2 = some (9, 1, false, false)) ∧
  (Zv Try.prog 81 3 = some (10, 1, false)) ∧
  (Z0 Try.prog 81 3 = some (10, 1, false, false)) ∧
  (szT Try.prog 87 = some 1) ∧
  (aggT Try.prog 87 = some false) ∧
  (Zx Try.prog 87 = .pointer) ∧
  (Z8 Try.prog 87 = some [.v (.pointer none)]) ∧
  (szT Try.prog 88 = some 16) ∧
  (aggT Try.prog 88 = some true) ∧
  (Zx Try.prog 88 = .array) ∧
  (Z8 Try.prog 88 = some [.v (.pointer none), .v (.pointer none), .v (.pointer none), .v (.pointer none), .v (.pointer none), .v (.pointer none), .v (.pointer none), .v (.pointer none), .v (.pointer none), .v (.pointer none), .v (.pointer none), .v (.pointer none), .v (.pointer none), .v (.pointer none), .v (.pointer none), .v (.pointer none)]) ∧
  (Qg Try.prog 88 = false) ∧
  (Qi Try.prog 88 = .arr 16 1 false false) ∧
  (Yw Try.prog 88 = true) ∧
  (∀ i, Zv Try.prog 88 i = some (i * 1, 1, false)) ∧
  (szT Try.prog 90 = some 1) ∧
  (aggT Try.prog 90 = some false) ∧
  (Zx Try.prog 90 = .pointer) ∧
  (Z8 Try.prog 90 = some [.v (.pointer none)]) ∧
  (Qi Try.prog 90 = .parr 16 1) ∧
  (szT Try.prog 92 = some 1) ∧
  (aggT Try.prog 92 = some false) ∧
  (Zx Try.prog 92 = .pointer) ∧
  (Z8 Try.prog 92 = some [.v (.pointer none)]) ∧
  (szT Try.prog 95 = some 4) ∧
  (aggT Try.prog 95 = some true) ∧
  (Zx Try.prog 95 = .struct) ∧
  (Z8 Try.prog 95 = some [.v (.int .i64 0), .v (.int .i64 0), .v (.int .i64 0), .v (.int .i64 0)]) ∧
  (Yw Try.prog 95 = true) ∧
  (Qg Try.prog 95 = false) ∧
  (Zv Try.prog 95 0 = some (0, 1, false)) ∧
  (Z0 Try.prog 95 0 = some (0, 1, false, false)) ∧
  (Zv Try.prog 95 1 = some (1, 1, false)) ∧
  (Z0 Try.prog 95 1 = some (1, 1, false, false)) ∧
  (Zv Try.prog 95 2 = some (2, 1, false)) ∧
  (Z0 Try.prog 95 2 = some (2, 1, false, false)) ∧
  (Zv Try.prog 95 3 = some (3, 1, false)) ∧
  (Z0 Try.prog 95 3 = some (3, 1, false, false)) ∧
  (szT Try.prog 96 = some 4) ∧
  (aggT Try.prog 96 = some true) ∧
  (Zx Try.prog 96 = .struct) ∧
  (Z8 Try.prog 96 = some [.v (.int .i64 0), .v (.int .i64 0), .v (.int .i64 0), .v (.int .i64 0)]) ∧
  (Yw Try.prog 96 = true) ∧
  (Qg Try.prog 96 = false) ∧
  (Zv Try.prog 96 0 = some (0, 1, false)) ∧
  (Z0 Try.prog 96 0 = some (0, 1, false, false)) ∧
  (Zv Try.prog 96 1 = some (1, 1, false)) ∧
  (Z0 Try.prog 96 1 = some (1, 1, false, false)) ∧
  (Zv Try.prog 96 2 = some (2, 1, false)) ∧
  (Z0 Try.prog 96 2 = some (2, 1, false, false)) ∧
  (Zv Try.prog 96 3 = some (3, 1, false)) ∧
  (Z0 Try.prog 96 3 = some (3, 1, false, false)) ∧
  (szT Try.prog 97 = some 1) ∧
  (aggT Try.prog 97 = some false) ∧
  (Zx Try.prog 97 = .slice false) ∧
  (Z8 Try.prog 97 = some [.v (.slice none 0 0)]) ∧
  (Qi Try.prog 97 = .sl 1 false false) ∧
  (Jd Try.prog 97 = some 1) ∧
  (Qf Try.prog 97 = some 24) ∧
  (zfb Try.prog 97 = some 24) ∧
  (Q4 Try.prog 97 = none) ∧
  (szT Try.prog 98 = some 5) ∧
  (aggT Try.prog 98 = some true) ∧
  (Zx Try.prog 98 = .struct) ∧
  (Z8 Try.prog 98 = some [.v (.int .i64 0), .v (.int .i64 0), .v (.int .i64 0), .v (.slice none 0 0), .v (.int .i64 0)]) ∧
  (Yw Try.prog 98 = true) ∧
  (Qg Try.prog 98 = false) ∧
  (Zv Try.prog 98 0 = some (0, 3, true)) ∧
  (Z0 Try.prog 98 0 = some (0, 3, true, false)) ∧
  (Zv Try.prog 98 1 = some (3, 1, false)) ∧
  (Z0 Try.prog 98 1 = some (3, 1, false, false)) ∧
  (Zv Try.prog 98 2 = some (4, 1, false)) ∧
  (Z0 Try.prog 98 2 = some (4, 1, false, false)) ∧
  (szT Try.prog 99 = some 5) ∧
  (aggT Try.prog 99 = some true) ∧
  (Zx Try.prog 99 = .struct) ∧
  (Z8 Try.prog 99 = some [.v (.int .i64 0), .v (.int .i64 0), .v (.int .i64 0), .v (.slice none 0 0), .v (.int .i64 0)]) ∧
  (Yw Try.prog 99 = true) ∧
  (Qg Try.prog 99 = false) ∧
  (Zv Try.prog 99 0 = some (0, 3, true)) ∧
  (Z0 Try.prog 99 0 = some (0, 3, true, false)) ∧
  (Zv Try.prog 99 1 = some (3, 1, false)) ∧
  (Z0 Try.prog 99 1 = some (3, 1, false, false)) ∧
  (Zv Try.prog 99 2 = some (4, 1, false)) ∧
  (Z0 Try.prog 99 2 = some (4, 1, false, false)) ∧
  (szT Try.prog 100 = some 1) ∧
  (aggT Try.prog 100 = some false) ∧
  (Zx Try.prog 100 = .slice false) ∧
  (Z8 Try.prog 100 = some [.v (.slice none 0 0)]) ∧
  (Qi Try.prog 100 = .sl 128 true true) ∧
  (Jd Try.prog 100 = some 128) ∧
  (Qf Try.prog 100 = some 1024) ∧
  (Q4 Try.prog 100 = none) ∧
  (szT Try.prog 101 = some 1) ∧
  (aggT Try.prog 101 = some false) ∧
  (Zx Try.prog 101 = .pointer) ∧
  (Z8 Try.prog 101 = some [.v (.pointer none)]) ∧
  (szT Try.prog 102 = some 9) ∧
  (aggT Try.prog 102 = some true) ∧
  (Zx Try.prog 102 = .struct) ∧
  (Z8 Try.prog 102 = some [.v (.int .i64 0), .v (.int .i64 0), .v (.int .i64 0), .v (.int .i64 0), .v (.slice none 0 0), .v (.int .i64 0), .v (.int .i64 0), .v (.int .i64 0), .v (.int .i64 0)]) ∧
  (Yw Try.prog 102 = true) ∧
  (Qg Try.prog 102 = false) ∧
  (Zv Try.prog 102 0 = some (0, 3, true)) ∧
  (Z0 Try.prog 102 0 = some (0, 3, true, false)) ∧
  (Zv Try.prog 102 1 = some (3, 1, false)) ∧
  (Z0 Try.prog 102 1 = some (3, 1, false, false)) ∧
  (Zv Try.prog 102 2 = some (4, 1, false)) ∧
  (Z0 Try.prog 102 2 = some (4, 1, false, false)) ∧
  (Zv Try.prog 102 3 = some (5, 1, false)) ∧
  (Z0 Try.prog 102 3 = some (5, 1, false, false)) ∧
  (Zv Try.prog 102 4 = some (6, 1, false)) ∧
  (Z0 Try.prog 102 4 = some (6, 1, false, false)) ∧
  (Zv Try.prog 102 5 = some (7, 1, false)) ∧
  (Z0 Try.prog 102 5 = some (7, 1, false, false)) ∧
  (Zv Try.prog 102 6 = some (8, 1, false)) ∧
  (Z0 Try.prog 102 6 = some (8, 1, false, false)) ∧
  (szT Try.prog 103 = some 9) ∧
  (aggT Try.prog 103 = some true) ∧
  (Zx Try.prog 103 = .struct) ∧
  (Z8 Try.prog 103 = some [.v (.int .i64 0), .v (.int .i64 0), .v (.int .i64 0), .v (.int .i64 0), .v (.slice none 0 0), .v (.int .i64 0), .v (.int .i64 0), .v (.int .i64 0), .v (.int .i64 0)]) ∧
  (Yw Try.prog 103 = true) ∧
  (Qg Try.prog 103 = false) ∧
  (Zv Try.prog 103 0 = some (0, 3, true)) ∧
  (Z0 Try.prog 103 0 = some (0, 3, true, false)) ∧
  (Zv Try.prog 103 1 = some (3, 1, false)) ∧
  (Z0 Try.prog 103 1 = some (3, 1, false, false)) ∧
  (Zv Try.prog 103 2 = some (4, 1, false)) ∧
  (Z0 Try.prog 103 2 = some (4, 1, false, false)) ∧
  (Zv Try.prog 103 3 = some (5, 1, false)) ∧
  (Z0 Try.prog 103 3 = some (5, 1, false, false)) ∧
  (Zv Try.prog 103 4 = some (6, 1, false)) ∧
  (Z0 Try.prog 103 4 = some (6, 1, false, false)) ∧
  (Zv Try.prog 103 5 = some (7, 1, false)) ∧
  (Z0 Try.prog 103 5 = some (7, 1, false, false)) ∧
  (Zv Try.prog 103 6 = some (8, 1, false)) ∧
  (Z0 Try.prog 103 6 = some (8, 1, false, false)) ∧
  (szT Try.prog 106 = some 6) ∧
  (aggT Try.prog 106 = some true) ∧
  (Zx Try.prog 106 = .array) ∧
  (Z8 Try.prog 106 = some [.arr 6 .i64 (List.replicate 6 0)]) ∧
  (Qg Try.prog 106 = true) ∧
  (Qi Try.prog 106 = .arr 6 1 false false) ∧
  (zad Try.prog 106 = some (6, .i64)) ∧
  (Yw Try.prog 106 = true) ∧
  (∀ i, Zv Try.prog 106 i = some (i * 1, 1, false)) ∧
  (szT Try.prog 107 = some 4) ∧
  (aggT Try.prog 107 = some true) ∧
  (Zx Try.prog 107 = .array) ∧
  (Z8 Try.prog 107 = some [.v (.slice none 0 0), .v (.slice none 0 0), .v (.slice none 0 0), .v (.slice none 0 0)]) ∧
  (Qg Try.prog 107 = false) ∧
  (Qi Try.prog 107 = .arr 4 1 false false) ∧
  (Yw Try.prog 107 = true) ∧
  (∀ i, Zv Try.prog 107 i = some (i * 1, 1, false)) ∧
  (szT Try.prog 108 = some 1) ∧
  (aggT Try.prog 108 = some false) ∧
  (Zx Try.prog 108 = .slice false) ∧
  (Z8 Try.prog 108 = some [.v (.slice none 0 0)]) ∧
  (Qi Try.prog 108 = .sl 1 false false) ∧
  (Jd Try.prog 108 = some 1) ∧
  (Qf Try.prog 108 = some 8) ∧
  (zfb Try.prog 108 = some 8) ∧
  (zlo Try.prog 108 = some (.i64, 0)) ∧
  (Q4 Try.prog 108 = some .i64) ∧
  (szT Try.prog 109 = some 1) ∧
  (aggT Try.prog 109 = some false) ∧
  (Zx Try.prog 109 = .pointer) ∧
  (Z8 Try.prog 109 = some [.v (.pointer none)]) ∧
  (Qi Try.prog 109 = .parr 16 1) ∧
  (∀ c, Jc Try.prog 22 c = some [.arr c .u8 (List.replicate c 0)]) ∧
  (∀ c, Jc Try.prog 37 c = some [.lst 1 (List.replicate c (.v (.slice none 0 0)))]) ∧
  (∀ c, Jc Try.prog 75 c = some [.arr c .u64 (List.replicate c 0)]) ∧
  (∀ c, Jc Try.prog 97 c = some [.lst 1 (List.replicate c (.v (.slice none 0 0)))]) ∧
  (∀ c, Jc Try.prog 100 c = some [.arr (c * 128) .u64 (List.replicate c (List.replicate 128 0)).flatten]) ∧
  (∀ c, Jc Try.prog 108 c = some [.arr c .i64 (List.replicate c 0)]) :=
  ⟨tb0, tb1, tb2, tb3, tb4, tb5, tb6, tb7, tb8, tb9, tb10, tb11, tb12, tb13, tb14, tb15, tb16, tb17, tb18, tb19, tb20, tb21, tb22, tb23, tb24, tb25, tb26, tb27, tb28, tb29, tb30, tb31, tb32, tb33, tb34, tb35, tb36, tb37, tb38, tb39, tb40, tb41, tb42, tb43, tb44, tb45, tb46, tb47, tb48, tb49, tb50, tb51, tb52, tb53, tb54, tb55, tb56, tb57, tb58, tb59, tb60, tb61, tb62, tb63, tb64, tb65, tb66, tb67, tb68, tb69, tb70, tb71, tb72, tb73, tb74, tb75, tb76, tb77, tb78, tb79, tb80, tb81, tb82, tb83, tb84, tb85, tb86, tb87, tb88, tb89, tb90, tb91, tb92, tb93, tb94, tb95, tb96, tb97, tb98, tb99, yk9, yk8, yk7, yk6, yk5, yk4, yk3, yk2, yk1, yk0, ykz, yky, ykx, ykw, ykv, yku, ykt, yks, ykr, ykq, ykp, yko, ykn, ykm, ykl, ykk, ykj, yki, ykh, ykg, ykf, yke, ykd, ykc, ykb, yka, yj9, yj8, yj7, yj6, yj5, yj4, yj3, yj2, yj1, yj0, yjz, yjy, yjx, yjw, yjv, yju, yjt, yjs, yjr, yjq, yjp, yjo, yjn, yjm, yjl, yjk, yjj, yji, yjh, yjg, yjf, yje, yjd, yjc, yjb, yja, yi9, yi8, yi7, yi6, yi5, yi4, yi3, yi2, yi1, yi0, yiz, yiy, yix, yiw, yiv, yiu, yit, yis, yir, yiq, yip, yio, yin, yim, yil, yik, yij, yii, yih, yig, yif, yie, yid, yic, yib, yia, yh9, yh8, yh7, yh6, yh5, yh4, yh3, yh2, yh1, yh0, yhz, yhy, yhx, yhw, yhv, yhu, yht, yhs, yhr, yhq, yhp, yho, yhn, yhm, yhl, yhk, yhj, yhi, yhh, yhg, yhf, yhe, yhd, yhc, yhb, yha, yg9, yg8, yg7, yg6, yg5, yg4, yg3, yg2, yg1, yg0, ygz, ygy, ygx, ygw, ygv, ygu, ygt, ygs, ygr, ygq, ygp, ygo, ygn, ygm, ygl, ygk, ygj, ygi, ygh, ygg, ygf, yge, ygd, ygc, ygb, yga, yf9, yf8, yf7, yf6, yf5, yf4, yf3, yf2, yf1, yf0, yfz, yfy, yfx, yfw, yfv, yfu, yft, yfs, yfr, yfq, yfp, yfo, yfn, yfm, yfl, yfk, yfj, yfi, yfh, yfg, yff, yfe, yfd, yfc, yfb, yfa, ye9, ye8, ye7, ye6, ye5, ye4, ye3, ye2, ye1, ye0, yez, yey, yex, yew, yev, yeu, yet, yer, yeq, yep, yeo, yen, yem, yel, yek, yej, yei, yeh, yeg, yef, yee, yed, yec, yeb, yea, yd9, yd8, yd7, yd6, yd5, yd4, yd3, yd2, yd1, yd0, ydz, ydy, ydx, ydw, ydv, tz22, tz37, tz75, tz97, ydu, ydt⟩
end Go.Proofs.Ytfnfmbikooeiaaa
namespace Go.Proofs.Ytfnfmbikooeiaaa
open Go.Ax
noncomputable def c0 (k : Nat) : Cfg := ⟨Try.prog, k, fun _ => none, [], fun _ => none, none, []⟩
theorem zqo (k : Nat) : (c0 k).odd = [] := rfl
theorem zw5 (k : Nat) : (c0 k).ro = [] := rfl
theorem c0_P (k : Nat) : (c0 k).P = Try.prog := rfl
theorem zsx (k : Nat) : (c0 k).Good := ⟨by kernel_rfl, fun f F args v h => by simp [c0] at h, fun f N h args out hN => by simp [c0] at hN⟩
theorem z5g (x n : Int) : Zs Try.prog 80 [.v (.int .u64 x), .v (.int .i64 n)] [] fun v _ => v = .v (.int .u64 (rotL x n)) := by
  refine Zq (zsx 0) Try.func80 rfl ⟨by kernel_rfl, by show 2 ≤ _; decide, by kernel_rfl, by kernel_rfl⟩ rfl ?_
  have hr : Try.f80.results.toList = [.tmp 4] := rfl
  simp only [c0_P, zqo, zw5, Nat.reduceBEq, Zy, Zw, reduceIte, Nat.reduceEqDiff, reduceCtorEq, ne_eq, if_true, if_false, exA, tabs, exB, exD, hr, u64_nonneg]
  rfl
def F80 : List AV → Option AV
  | [.v (.int .u64 x), .v (.int .i64 n)] => some (.v (.int .u64 (rotL x n)))
  | _ => none
theorem Yk (x n : Int) : F80 [.v (.int .u64 x), .v (.int .i64 n)] = some (.v (.int .u64 (rotL x n))) := rfl
noncomputable def p1 : FuncId → Option (List AV → Option AV) := Qb (fun _ => none) 80 F80
noncomputable def c1 (k : Nat) : Cfg := ⟨Try.prog, k, p1, [], fun _ => none, none, []⟩
theorem z7e (k : Nat) : (c1 k).odd = [] := rfl
theorem ybo (k : Nat) : (c1 k).ro = [] := rfl
theorem c1_P (k : Nat) : (c1 k).P = Try.prog := rfl
theorem ymf (k : Nat) : (c1 k).pure 80 = some F80 := rfl
theorem z6o (k : Nat) : (c1 k).Good := by
  refine Cfg.Good.add (zsx k) ?_ k
  intro args v hF h κ hκ
  unfold F80 at hF
  split at hF
  · cases hF
    exact Yn (z5g _ _) (fun g => rfl) (fun g => rfl) h κ hκ
  · cases hF
theorem zx8 (x n : Int) : Zs Try.prog 70 [.v (.int .u64 x), .v (.int .i64 n)] [] fun v _ => v = .v (.int .u64 (rotL x (IntKind.i64.wrap (0 - n)))) := by
  refine Zq (z6o 0) Try.func70 rfl ⟨by kernel_rfl, by show 2 ≤ _; decide, by kernel_rfl, by kernel_rfl⟩ rfl ?_
  have hr : Try.f70.results.toList = [.tmp 4] := rfl
  simp only [c1_P, z7e, ybo, ymf, Yk, Nat.reduceBEq, Zy, Zw, reduceIte, Nat.reduceEqDiff, reduceCtorEq, ne_eq, if_true, if_false, exA, tabs, exB, exD, hr]
theorem z1z (x n : Int) (h : 0 ≤ n ∧ 0 ≤ IntKind.i64.wrap (64 - n)) : Zs Try.prog 71 [.v (.int .i64 n), .v (.int .u64 x)] [] fun v _ => v = .v (.int .u64 (rotR n x)) := by
  refine Zq (z6o 0) Try.func71 rfl ⟨by kernel_rfl, by show 2 ≤ _; decide, by kernel_rfl, by kernel_rfl⟩ rfl ?_
  have hr : Try.f71.results.toList = [.tmp 4] := rfl
  simp only [c1_P, z7e, ybo, Nat.reduceBEq, Zy, Zw, reduceIte, Nat.reduceEqDiff, reduceCtorEq, ne_eq, if_true, if_false, exA, tabs, exB, exD, hr, h]
  rfl
theorem zy9 (x : Int) : Zs Try.prog 53 [.v (.int .u8 x)] [] fun v _ => v = .v (.int .i64 (zj2 x)) := by
  refine Zq (zsx 0) Try.func53 rfl ⟨by kernel_rfl, by show 1 ≤ _; decide, by kernel_rfl, by kernel_rfl⟩ rfl ?_
  have hr : Try.f53.results.toList = [.tmp 2] := rfl
  simp only [c0_P, zqo, zw5, Nat.reduceBEq, Zy, Zw, reduceIte, Nat.reduceEqDiff, reduceCtorEq, ne_eq, if_true, if_false, exA, tabs, exB, exD, hr]
  unfold zj2
  split <;> rfl
theorem zy3 : Zs Try.prog 25 [] [] fun v _ => v = .arr 8 .u64 Yz := by
  refine Zq (zsx 0) Try.func25 rfl ⟨by kernel_rfl, by show 0 ≤ _; decide, by kernel_rfl, by kernel_rfl⟩ rfl ?_
  have hr : Try.f25.results.toList = [.cell 0 30] := rfl
  simp only [c0_P, zqo, zw5, Nat.reduceBEq, Zy, Zw, reduceIte, Nat.reduceEqDiff, reduceCtorEq, ne_eq, if_true, if_false, exA, tabs, exB, exD, hr, Zl, Zp, Ze, Zi, Zn, AV.isAggV, AV.parts, AV.one, AV.solid, Zf, Zb, Zj, Zc, Zk, Zh, Zg, bndA, lenA, Zd, rowOf, Za, intsOf, Zo, Nat.reduceAdd, Nat.reduceSub, Nat.reduceMul, Nat.reduceLeDiff, Nat.reduceLT, Nat.reduceGT, Int.reduceToNat, Int.reduceLE, Int.reduceLT, Int.reduceEq, Int.reduceNe, Int.reduceAdd, Int.reduceSub, Int.reduceMul, Int.reduceNeg, ite_true, ite_false, dite_true]
  rfl
theorem zvg : Zs Try.prog 26 [] [] fun v _ => v = .arr 8 .u64 Yz := by
  refine Zq (zsx 0) Try.func26 rfl ⟨by kernel_rfl, by show 0 ≤ _; decide, by kernel_rfl, by kernel_rfl⟩ rfl ?_
  have hr : Try.f26.results.toList = [.cell 0 30] := rfl
  simp only [c0_P, zqo, zw5, Nat.reduceBEq, Zy, Zw, reduceIte, Nat.reduceEqDiff, reduceCtorEq, ne_eq, if_true, if_false, exA, tabs, exB, exD, hr, Zl, Zp, Ze, Zi, Zn, AV.isAggV, AV.parts, AV.one, AV.solid, Zf, Zb, Zj, Zc, Zk, Zh, Zg, bndA, lenA, Zd, rowOf, Za, intsOf, Zo, Nat.reduceAdd, Nat.reduceSub, Nat.reduceMul, Nat.reduceLeDiff, Nat.reduceLT, Nat.reduceGT, Int.reduceToNat, Int.reduceLE, Int.reduceLT, Int.reduceEq, Int.reduceNe, Int.reduceAdd, Int.reduceSub, Int.reduceMul, Int.reduceNeg, ite_true, ite_false, dite_true]
  rfl
theorem zyh (r k : Nat) (h1 : r < 10) (h2 : k < 16) :
    Zs Try.prog 55 [.v (.int .i64 r), .v (.int .i64 k)] [] fun v _ => v = .v (.int .i64 (Jh.getD (16 * r + k) 0 : Nat)) := by
  refine Zq (zsx 0) Try.func55 rfl ⟨by kernel_rfl, by show 2 ≤ _; decide, by kernel_rfl, by kernel_rfl⟩ rfl ?_
  have hr : Try.f55.results.toList = [.tmp 4] := rfl
  have hw : IntKind.i64.wrap (IntKind.i64.wrap (16 * (r : Int)) + (k : Int)) = ((16 * r + k : Nat) : Int) := by
    rw [Z5 (16 * (r : Int)) (by omega), Z5 _ (by omega)]; omega
  simp only [c0_P, zqo, zw5, Nat.reduceBEq, Zy, Zw, reduceIte, Nat.reduceEqDiff, reduceCtorEq, ne_eq, if_true, if_false, exA, tabs, exB, exD, hr, Zl, Zp, Ze, Zi, Zn, AV.isAggV, AV.parts, AV.one, AV.solid, Zf, Zb, Zj, Zc, Zk, Zh, Zg, bndA, lenA, Zd, rowOf, Za, intsOf, Zo, Nat.reduceAdd, Nat.reduceSub, Nat.reduceMul, Nat.reduceLeDiff, Nat.reduceLT, Nat.reduceGT, Int.reduceToNat, Int.reduceLE, Int.reduceLT, Int.reduceEq, Int.reduceNe, Int.reduceAdd, Int.reduceSub, Int.reduceMul, Int.reduceNeg, ite_true, ite_false, dite_true, hw, Int.toNat_natCast, AV.v.injEq, Value.int.injEq]
  obtain ⟨i, hi⟩ : ∃ i : Fin 160, i.val = 16 * r + k := ⟨⟨16 * r + k, by omega⟩, rfl⟩
  rw [← hi]
  clear hi hw h1 h2
  revert i
  decide
def F70 : List AV → Option AV
  | [.v (.int .u64 x), .v (.int .i64 n)] => some (.v (.int .u64 (rotL x (IntKind.i64.wrap (0 - n)))))
  | _ => none
theorem Yl (x n : Int) : F70 [.v (.int .u64 x), .v (.int .i64 n)] = some (.v (.int .u64 (rotL x (IntKind.i64.wrap (0 - n))))) := rfl
def F71 : List AV → Option AV
  | [.v (.int .i64 n), .v (.int .u64 x)] => Zu (0 ≤ n ∧ 0 ≤ IntKind.i64.wrap (64 - n)) (some (.v (.int .u64 (rotR n x))))
  | _ => none
theorem ydg (x : Int) : F71 [.v (.int .i64 32), .v (.int .u64 x)] = some (.v (.int .u64 (rotR 32 x))) := rfl
theorem ydh (x : Int) : F71 [.v (.int .i64 24), .v (.int .u64 x)] = some (.v (.int .u64 (rotR 24 x))) := rfl
theorem ydi (x : Int) : F71 [.v (.int .i64 16), .v (.int .u64 x)] = some (.v (.int .u64 (rotR 16 x))) := rfl
theorem ydf (x : Int) : F71 [.v (.int .i64 63), .v (.int .u64 x)] = some (.v (.int .u64 (rotR 63 x))) := rfl
def F53 : List AV → Option AV
  | [.v (.int .u8 x)] => some (.v (.int .i64 (zj2 x)))
  | _ => none
theorem Yj (x : Int) : F53 [.v (.int .u8 x)] = some (.v (.int .i64 (zj2 x))) := rfl
def F55 : List AV → Option AV
  | [.v (.int .i64 r), .v (.int .i64 k)] => Zu (0 ≤ r ∧ r < 10 ∧ 0 ≤ k ∧ k < 16) (some (.v (.int .i64 (Jh.getD (16 * r.toNat + k.toNat) 0 : Nat))))
  | _ => none
theorem Yg (r k : Int) : F55 [.v (.int .i64 r), .v (.int .i64 k)] = Zu (0 ≤ r ∧ r < 10 ∧ 0 ≤ k ∧ k < 16) (some (.v (.int .i64 (Jh.getD (16 * r.toNat + k.toNat) 0 : Nat)))) := rfl
def F25 : List AV → Option AV
  | [] => some (.arr 8 .u64 Yz)
  | _ => none
theorem Yh : F25 [] = some (.arr 8 .u64 Yz) := rfl
noncomputable def p2 : FuncId → Option (List AV → Option AV) := Qb (Qb (Qb (Qb (Qb (Qb p1 70 F70) 71 F71) 53 F53) 55 F55) 25 F25) 26 F25
noncomputable def c2 (k : Nat) : Cfg := ⟨Try.prog, k, p2, [], fun _ => none, none, []⟩
theorem Js (k : Nat) : (c2 k).odd = [] := rfl
theorem zbq (k : Nat) : (c2 k).ro = [] := rfl
theorem c2_P (k : Nat) : (c2 k).P = Try.prog := rfl
theorem ylv (k : Nat) : (c2 k).pure 70 = some F70 := rfl
theorem ylu (k : Nat) : (c2 k).pure 71 = some F71 := rfl
theorem ybl (k : Nat) : (c2 k).pure 53 = some F53 := rfl
theorem ybm (k : Nat) : (c2 k).pure 25 = some F25 := rfl
theorem ybk (k : Nat) : (c2 k).pure 54 = none := rfl
theorem zf8 (k : Nat) : (c2 k).Good := by
  refine Cfg.Good.add (Cfg.Good.add (Cfg.Good.add (Cfg.Good.add (Cfg.Good.add (Cfg.Good.add (z6o k) ?_ k) ?_ k) ?_ k) ?_ k) ?_ k) ?_ k
  · intro args v hF h κ hκ
    unfold F70 at hF
    split at hF
    · cases hF; exact Yn (zx8 _ _) (fun g => rfl) (fun g => rfl) h κ hκ
    · cases hF
  · intro args v hF h κ hκ
    unfold F71 at hF
    split at hF
    · obtain ⟨h1, h2⟩ := Zt hF
      cases h2; exact Yn (z1z _ _ h1) (fun g => rfl) (fun g => rfl) h κ hκ
    · cases hF
  · intro args v hF h κ hκ
    unfold F53 at hF
    split at hF
    · cases hF; exact Yn (zy9 _) (fun g => rfl) (fun g => rfl) h κ hκ
    · cases hF
  · intro args v hF h κ hκ
    unfold F55 at hF
    split at hF
    · rename_i r k
      obtain ⟨⟨h1, h2, h3, h4⟩, h5⟩ := Zt hF
      cases h5
      obtain ⟨r, rfl⟩ := Int.eq_ofNat_of_zero_le h1
      obtain ⟨k, rfl⟩ := Int.eq_ofNat_of_zero_le h3
      exact Yn (zyh r k (by omega) (by omega)) (fun g => rfl) (fun g => rfl) h κ hκ
    · cases hF
  · intro args v hF h κ hκ
    unfold F25 at hF
    split at hF
    · cases hF; exact Yn zy3 (fun g => rfl) (fun g => rfl) h κ hκ
    · cases hF
  · intro args v hF h κ hκ
    unfold F25 at hF
    split at hF
    · cases hF; exact Yn zvg (fun g => rfl) (fun g => rfl) h κ hκ
    · cases hF
end Go.Proofs.Ytfnfmbikooeiaaa
namespace Go.Proofs.Ytfnfmbikooeiaaa
open Go.Ax
theorem zv7 (v : List Int) (a b c d : Nat) (x y : Int) (ha : a < 16) (hb : b < 16) (hc : c < 16) (hd : d < 16) :
    Zs Try.prog 54 [.ptr 0 0 0, .v (.int .i64 a), .v (.int .i64 b), .v (.int .i64 c), .v (.int .i64 d), .v (.int .u64 x), .v (.int .u64 y)] [some [.arr 16 .u64 v]]
      fun r h => r = .tup [] ∧ h = [some [.arr 16 .u64 (mixL v a b c d x y)]] := by
  refine Zq (zf8 1) Try.func54 rfl ⟨by kernel_rfl, by show 7 ≤ _; decide, by kernel_rfl, by kernel_rfl⟩ rfl ?_
  have hr : Try.f54.results.toList = [] := rfl
  have na : ∀ n : Nat, (0 : Int) ≤ n := fun n => Int.natCast_nonneg n
  have ha' : (a : Int) < 16 := by omega
  have hb' : (b : Int) < 16 := by omega
  have hc' : (c : Int) < 16 := by omega
  have hd' : (d : Int) < 16 := by omega
  simp only [c2_P, Js, zbq, ylv, Yl, Nat.reduceBEq, Zy, Zw, reduceIte, Nat.reduceEqDiff, reduceCtorEq, ne_eq, if_true, if_false, exA, tabs, exB, exD, hr, Zl, Zp, Ze, Zi, Zn, AV.isAggV, AV.parts, AV.one, AV.solid, Zf, Zb, Zj, Zc, Zk, Zh, Zg, bndA, lenA, Zd, rowOf, Za, intsOf, Zo, Nat.reduceAdd, Nat.reduceSub, Nat.reduceMul, Nat.reduceLeDiff, Nat.reduceLT, Nat.reduceGT, Int.reduceToNat, Int.reduceLE, Int.reduceLT, Int.reduceEq, Int.reduceNe, Int.reduceAdd, Int.reduceSub, Int.reduceMul, Int.reduceNeg, ite_true, ite_false, dite_true, na, ha, hb, hc, hd, ha', hb', hc', hd', Int.toNat_natCast, yax, yay, yaz, yaw, zrj, zrk, Int.add_assoc, z1t, z1v, z0e, mixL]
theorem z2q (v : List Int) (a b c d : Nat) (x y : Int) (hv : v.length = 16) (ha : a < 16) (hb : b < 16) (hc : c < 16) (hd : d < 16) :
    Zs Try.prog 56 [.arr 16 .u64 v, .v (.int .i64 a), .v (.int .i64 b), .v (.int .i64 c), .v (.int .i64 d), .v (.int .u64 x), .v (.int .u64 y)] []
      fun r _ => r = .arr 16 .u64 (mixL v a b c d x y) := by
  refine Zq (zf8 0) Try.func56 rfl ⟨by kernel_rfl, by show 7 ≤ _; decide, by kernel_rfl, by kernel_rfl⟩ rfl ?_
  have hr : Try.f56.results.toList = [.cell 14 60] := rfl
  have na : ∀ n : Nat, (0 : Int) ≤ n := fun n => Int.natCast_nonneg n
  have ha' : (a : Int) < 16 := by omega
  have hb' : (b : Int) < 16 := by omega
  have hc' : (c : Int) < 16 := by omega
  have hd' : (d : Int) < 16 := by omega
  simp only [c2_P, Js, zbq, ylu, ydg, ydh, ydi, ydf, Nat.reduceBEq, Zy, Zw, reduceIte, Nat.reduceEqDiff, reduceCtorEq, ne_eq, if_true, if_false, exA, tabs, exB, exD, hr, Zl, Zp, Ze, Zi, Zn, AV.isAggV, AV.parts, AV.one, AV.solid, Zf, Zb, Zj, Zc, Zk, Zh, Zg, bndA, lenA, Zd, rowOf, Za, intsOf, Zo, Nat.reduceAdd, Nat.reduceSub, Nat.reduceMul, Nat.reduceLeDiff, Nat.reduceLT, Nat.reduceGT, Int.reduceToNat, Int.reduceLE, Int.reduceLT, Int.reduceEq, Int.reduceNe, Int.reduceAdd, Int.reduceSub, Int.reduceMul, Int.reduceNeg, ite_true, ite_false, dite_true, na, ha, hb, hc, hd, ha', hb', hc', hd', Int.toNat_natCast, zrj, zrk, Int.add_assoc, z1t, z1v, z0e, mixL]
  rw [List.take_of_length_le (by simp [rotp, addp, addx, hv]), List.take_of_length_le (by simp [rotp, addp, addx, hv])]
end Go.Proofs.Ytfnfmbikooeiaaa
namespace Go.Proofs.Ytfnfmbikooeiaaa
open Go.Ax
def yla : Op → Option ByteArray
  | .index _ (.const (.string s)) _ => some s
  | .slice _ (.const (.string s)) _ _ _ => some s
  | _ => none
def ztj : Code → Option ByteArray
  | .region _ ops _ => ops.toList.findSome? fun o => yla o.op
  | .seq a b => (ztj a).or (ztj b)
  | _ => none
noncomputable def ordS : ByteArray := ((Try.f55.body.bind ztj).getD ⟨#[]⟩)
theorem zav : ordS.size = 160 := by kernel_rfl
theorem zpr : ∀ j : Fin 160, zj2 ((ordS.data.toList.getD j.val 0).toNat : Int) = ((Jh.getD j.val 0 : Nat) : Int) := by decide +kernel
theorem zdh : ∀ j : Nat, Jh.getD j 0 < 16 := by
  intro j
  by_cases h : j < 160
  · have : ∀ j : Fin 160, Jh.getD j.val 0 < 16 := by decide
    exact this ⟨j, h⟩
  · have : Jh.getD j 0 = 0 := by
      rw [List.getD_eq_getElem?_getD, List.getElem?_eq_none (by simp [Jh]; omega)]; rfl
    omega
theorem zwv (s : ByteArray) (i j n : Nat) (h : i + n ≤ s.size) (hj : j < n) : ((s.extract i s.size).extract 0 n).data.toList.getD j 0 = s.data.toList.getD (i + j) 0 := by
  simp only [ByteArray.data_extract, Array.toList_extract, List.extract_eq_take_drop, List.getD_eq_getElem?_getD]
  rw [List.drop_zero, List.getElem?_take_of_lt (by omega), List.getElem?_take_of_lt (by omega), List.getElem?_drop]
end Go.Proofs.Ytfnfmbikooeiaaa
namespace Go.Proofs.Ytfnfmbikooeiaaa
open Go.Ax
theorem zvo (h p : List Int) (t : Int) (hh : h.length = 8) (hp : p.length = 128) :
    Zs Try.prog 23 [.arr 8 .u64 h, .arr 128 .u8 p, .v (.int .u64 t), .v (.bool false)] [] fun v _ => v = .arr 8 .u64 (Q8 h p t false) := by
  refine Zq (zf8 0) Try.func23 rfl ⟨by kernel_rfl, by show 4 ≤ _; decide, by kernel_rfl, by kernel_rfl⟩ rfl ?_
  have hr : Try.f23.results.toList = [.cell 8 30] := rfl
  have hp1 : p.take 128 = p := List.take_of_length_le (by omega)
  simp only [c2_P, Js, zbq, Nat.reduceBEq, Zy, Zw, reduceIte, Nat.reduceEqDiff, reduceCtorEq, ne_eq, if_true, if_false, exA, tabs, exB, exD, hr, Zl, Zp, Ze, Zi, Zn, AV.isAggV, AV.parts, AV.one, AV.solid, Zf, Zb, Zj, Zc, Zk, Zh, Zg, bndA, lenA, Zd, rowOf, Za, intsOf, Zo, Nat.reduceAdd, Nat.reduceSub, Nat.reduceMul, Nat.reduceLeDiff, Nat.reduceLT, Nat.reduceGT, Int.reduceToNat, Int.reduceLE, Int.reduceLT, Int.reduceEq, Int.reduceNe, Int.reduceAdd, Int.reduceSub, Int.reduceMul, Int.reduceNeg, ite_true, ite_false, dite_true, hp1]
  refine Qp (zf8 0) (α := {i : Nat // i ≤ 128}) (fun i => ⟨envL [(2, .v (.int .u64 t)), (3, .v (.bool false)), (4, .ptr 0 0 0), (8, .ptr 2 0 0), (9, .ptr 3 0 0), (10, .ptr 4 0 0), (21, .arr 128 .u8 p), (22, .v (.int .i64 i.val))],
    [some [.arr 8 .u64 h], some [.arr 128 .u8 p], some [.arr 8 .u64 (List.replicate 8 0)], some [.arr 16 .u64 (wordsAt p i.val)], some [.arr 16 .u64 (List.replicate 16 0)]]⟩) (fun i => 128 - i.val) ⟨0, by omega⟩ (by kernel_rfl) ?_ ?_
  · exact Yd (by simp only [List.take_length, List.drop_length, Nat.min_self, List.length_replicate, List.length_append, List.length_set, List.length_map, List.length_range, List.length_take, List.length_drop, Zl, layA, zei, Zp, Ze, J3, Ji, Yq, Y2, Zi, Zn, AV.size, AV.isAggV, AV.parts, AV.one, AV.solid, Zf, zbp, J6, Jl, Ja, Qq, zbf, zcy, zd7, zcz, zfo, zfr, zfq, zie, zfp, zd8, zea, zd9, zf0, zit, zf2, zf1, zf4, zf3, zcf, Zb, Zj, Zc, Zk, Zh, Zg, bndA, lenA, Zd, rowOf, Za, intsOf, Zo, List.getElem?_cons_zero, List.getElem?_cons_succ, List.length_cons, List.length_nil, List.set_cons_zero, List.set_cons_succ, Nat.reduceAdd, Nat.reduceSub, Nat.reduceMul, Nat.reduceLeDiff, Nat.reduceLT, Nat.reduceGT, Int.reduceToNat, Int.reduceLE, Int.reduceLT, Int.reduceEq, Int.reduceNe, Int.reduceAdd, Int.reduceSub, Int.reduceMul, Nat.zero_add, Nat.add_zero, Nat.mul_one, Nat.one_mul, Nat.zero_mul, Nat.mul_zero, Nat.sub_zero, Nat.le_refl, Int.reduceNeg, ge_iff_le, gt_iff_lt, Option.isSome_none, Option.isSome_some, Bool.not_true, Bool.not_false, Bool.not_not, List.take_zero, List.drop_zero, List.tail_cons, or_true, true_or, or_false, false_or, not_true, not_false_iff, Int.ofNat_eq_natCast, Int.cast_ofNat_Int, reduceIte, ite_true, ite_false, dite_true, get_put, zbm, List.getD_cons_zero, List.getD_cons_succ, Nat.reduceEqDiff, reduceIte, and_self, Int.cast_ofNat_Int])
  · rintro ⟨i, hi⟩
    have na : ∀ n : Nat, (0 : Int) ≤ n := fun n => Int.natCast_nonneg n
    by_cases hlt : i < 128
    · have h1 : (i : Int) < 128 := by omega
      have h2 : i / 8 < 16 := by omega
      have h3 : ((i / 8 : Nat) : Int) < 16 := by omega
      have h4 : IntKind.i64.wrap (8 * ((i % 8 : Nat) : Int)) = ((8 * (i % 8) : Nat) : Int) := by rw [Z5 _ (by omega)]; omega
      have h5 : IntKind.i64.wrap ((i / 8 : Nat) : Int) = ((i / 8 : Nat) : Int) := ziu _ (by omega)
      have h6 : IntKind.i64.wrap ((i : Int) + 1) = ((i + 1 : Nat) : Int) := by rw [Z5 _ (by omega)]; omega
      simp only [c2_P, Js, zbq, Nat.reduceBEq, Zy, Zw, reduceIte, Nat.reduceEqDiff, reduceCtorEq, ne_eq, if_true, if_false, exA, tabs, exB, exD, hr, Zl, Zp, Ze, Zi, Zn, AV.isAggV, AV.parts, AV.one, AV.solid, Zf, Zb, Zj, Zc, Zk, Zh, Zg, bndA, lenA, Zd, rowOf, Za, intsOf, Zo, Nat.reduceAdd, Nat.reduceSub, Nat.reduceMul, Nat.reduceLeDiff, Nat.reduceLT, Nat.reduceGT, Int.reduceToNat, Int.reduceLE, Int.reduceLT, Int.reduceEq, Int.reduceNe, Int.reduceAdd, Int.reduceSub, Int.reduceMul, Int.reduceNeg, ite_true, ite_false, dite_true, h1, h2, h3, h4, h5, h6, na, Int.toNat_natCast, zz5, zz3]
      refine ⟨⟨i + 1, by omega⟩, by simp only; omega, Yd ?_⟩
      simp only [List.take_length, List.drop_length, Nat.min_self, List.length_replicate, List.length_append, List.length_set, List.length_map, List.length_range, List.length_take, List.length_drop, Zl, layA, zei, Zp, Ze, J3, Ji, Yq, Y2, Zi, Zn, AV.size, AV.isAggV, AV.parts, AV.one, AV.solid, Zf, zbp, J6, Jl, Ja, Qq, zbf, zcy, zd7, zcz, zfo, zfr, zfq, zie, zfp, zd8, zea, zd9, zf0, zit, zf2, zf1, zf4, zf3, zcf, Zb, Zj, Zc, Zk, Zh, Zg, bndA, lenA, Zd, rowOf, Za, intsOf, Zo, List.getElem?_cons_zero, List.getElem?_cons_succ, List.length_cons, List.length_nil, List.set_cons_zero, List.set_cons_succ, Nat.reduceAdd, Nat.reduceSub, Nat.reduceMul, Nat.reduceLeDiff, Nat.reduceLT, Nat.reduceGT, Int.reduceToNat, Int.reduceLE, Int.reduceLT, Int.reduceEq, Int.reduceNe, Int.reduceAdd, Int.reduceSub, Int.reduceMul, Nat.zero_add, Nat.add_zero, Nat.mul_one, Nat.one_mul, Nat.zero_mul, Nat.mul_zero, Nat.sub_zero, Nat.le_refl, Int.reduceNeg, ge_iff_le, gt_iff_lt, Option.isSome_none, Option.isSome_some, Bool.not_true, Bool.not_false, Bool.not_not, List.take_zero, List.drop_zero, List.tail_cons, or_true, true_or, or_false, false_or, not_true, not_false_iff, Int.ofNat_eq_natCast, Int.cast_ofNat_Int, reduceIte, ite_true, ite_false, dite_true, get_put, zbm, List.getD_cons_zero, List.getD_cons_succ, Nat.reduceEqDiff, reduceIte, and_self]
    · have h1 : ¬ (i : Int) < 128 := by omega
      have hi : i = 128 := by omega
      subst hi
      have hh1 : h.take 8 = h := List.take_of_length_le (by omega)
      have hh2 : h.take 16 = h := List.take_of_length_le (by omega)
      have hA : (List.replicate 16 (0 : Int)).drop 8 = List.replicate 8 0 := rfl
      have hB : (h ++ List.replicate 8 0).take 8 = h := by rw [List.take_append_of_le_length (by omega), hh1]
      have hC : (h ++ List.replicate 8 (0 : Int)).drop 16 = [] := List.drop_eq_nil_of_le (by simp [hh])
      have hD : Yz.take 8 = Yz := rfl
      have hE : Yz.length = 8 := rfl
      have hF : min 8 16 = 8 := rfl
      have hG : IntKind.u64.signed = false := rfl
      simp only [c2_P, Js, zbq, ybm, Yh, Nat.reduceBEq, Zy, Zw, reduceIte, Nat.reduceEqDiff, reduceCtorEq, ne_eq, if_true, if_false, exA, tabs, exB, exD, hr, Zl, Zp, Ze, Zi, Zn, AV.isAggV, AV.parts, AV.one, AV.solid, Zf, Zb, Zj, Zc, Zk, Zh, Zg, bndA, lenA, Zd, rowOf, Za, intsOf, Zo, Nat.reduceAdd, Nat.reduceSub, Nat.reduceMul, Nat.reduceLeDiff, Nat.reduceLT, Nat.reduceGT, Int.reduceToNat, Int.reduceLE, Int.reduceLT, Int.reduceEq, Int.reduceNe, Int.reduceAdd, Int.reduceSub, Int.reduceMul, Int.reduceNeg, ite_true, ite_false, dite_true, h1, na, Int.toNat_natCast, hh1, hh2, hh, hA, hB, hC, hD, hE, hF, hG]
      refine Qp (zf8 0) (α := {i : Nat // i ≤ 12}) (fun i => ⟨envL [(4, .ptr 0 0 0), (8, .ptr 2 0 0), (9, .ptr 3 0 0), (10, .ptr 4 0 0), (56, .v (.int .i64 i.val))],
        [some [.arr 8 .u64 h], some [.arr 128 .u8 p], some [.arr 8 .u64 (List.replicate 8 0)], some [.arr 16 .u64 (wordsAt p 128)], some [.arr 16 .u64 (Qc (wordsAt p 128) (Y6 h t false) i.val)], some [.arr 8 .u64 Yz]]⟩) (fun i => 12 - i.val) ⟨0, by omega⟩ (by kernel_rfl) ?_ ?_
      · exact Yd ⟨rfl, rfl, rfl, rfl, rfl, trivial⟩
      · rintro ⟨r, hi⟩
        have e := @id (ordS = ByteArray.mk (List.append (List.append _ _) (List.append _ _)).toArray) rfl
        rw [← e]
        clear e
        by_cases hlt : r < 12
        · have h1 : (r : Int) < 12 := by omega
          have h2 : IntKind.i64.wrap (16 * ((r % 10 : Nat) : Int)) = ((16 * (r % 10) : Nat) : Int) := by rw [Z5 _ (by omega)]; omega
          have h3 : ((16 * (r % 10) : Nat) : Int) ≤ 160 := by omega
          have h4 : ((ordS.extract (16 * (r % 10)) 160).extract 0 16).size = 16 := by simp only [ByteArray.size_extract, zav]; omega
          have h5 : (16 : Int) ≤ (((ordS.extract (16 * (r % 10)) 160).size : Nat) : Int) := by simp only [ByteArray.size_extract, zav]; omega
          have hlen : (16 * (r % 10)) + 16 ≤ ordS.size := by rw [zav]; omega
          have h6 : ∀ j, j < 16 → zj2 ((((ordS.extract (16 * (r % 10)) 160).extract 0 16).data.toList.getD j 0).toNat : Int) = ((Jh.getD (16 * (r % 10) + j) 0 : Nat) : Int) := by
            intro j hj
            have := zwv ordS (16 * (r % 10)) j 16 hlen hj
            rw [zav] at this
            rw [this]
            exact zpr ⟨16 * (r % 10) + j, by omega⟩
          have h7 : IntKind.i64.wrap ((r : Int) + 1) = ((r + 1 : Nat) : Int) := by rw [Z5 _ (by omega)]; omega
          simp only [c2_P, Js, zbq, Nat.reduceBEq, Zy, Zw, reduceIte, Nat.reduceEqDiff, reduceCtorEq, ne_eq, if_true, if_false, exA, tabs, exB, exD, hr, Zl, Zp, Ze, Zi, Zn, AV.isAggV, AV.parts, AV.one, AV.solid, Zf, Zb, Zj, Zc, Zk, Zh, Zg, bndA, lenA, Zd, rowOf, Za, intsOf, Zo, Nat.reduceAdd, Nat.reduceSub, Nat.reduceMul, Nat.reduceLeDiff, Nat.reduceLT, Nat.reduceGT, Int.reduceToNat, Int.reduceLE, Int.reduceLT, Int.reduceEq, Int.reduceNe, Int.reduceAdd, Int.reduceSub, Int.reduceMul, Int.reduceNeg, ite_true, ite_false, dite_true, h1, h2, h3, h5, na, Int.toNat_natCast, ztg, zav]
          refine Qp (zf8 0) (α := {i : Nat // i ≤ 8}) (fun i => ⟨envL [(4, .ptr 0 0 0), (8, .ptr 2 0 0), (9, .ptr 3 0 0), (10, .ptr 4 0 0), (56, .v (.int .i64 r)), (15, .v (.string ((ordS.extract (16 * (r % 10)) 160).extract 0 16))), (64, .v (.int .i64 i.val))],
            [some [.arr 8 .u64 h], some [.arr 128 .u8 p], some [.arr 8 .u64 (List.replicate 8 0)], some [.arr 16 .u64 (wordsAt p 128)], some [.arr 16 .u64 (Y8 (wordsAt p 128) (Qc (wordsAt p 128) (Y6 h t false) r) r i.val)], some [.arr 8 .u64 Yz]]⟩) (fun i => 8 - i.val) ⟨0, by omega⟩ (by kernel_rfl) ?_ ?_
          · exact Yd ⟨rfl, rfl, rfl, rfl, rfl, rfl, rfl, trivial⟩
          · rintro ⟨k, hk⟩
            by_cases hkt : k < 8
            · have k1 : (k : Int) < 8 := by omega
              have k2 : IntKind.i64.wrap (2 * (k : Int)) = ((2 * k : Nat) : Int) := by rw [Z5 _ (by omega)]; omega
              have k3 : IntKind.i64.wrap (((2 * k : Nat) : Int) + 1) = ((2 * k + 1 : Nat) : Int) := by rw [Z5 _ (by omega)]; omega
              have k4 : ((2 * k : Nat) : Int) < 16 := by omega
              have k5 : ((2 * k + 1 : Nat) : Int) < 16 := by omega
              have k6 := h6 (2 * k) (by omega)
              have k7 := h6 (2 * k + 1) (by omega)
              have k8 : ∀ j, (((Jh.getD j 0 : Nat) : Int) < 16) = True := fun j => eq_true (by have := zdh j; omega)
              have k9 : ∀ j, ((Jh.getD j 0) < 16) = True := fun j => eq_true (zdh j)
              have e0 : IntKind.i64.wrap ((k / 4 : Nat) : Int) = ((k / 4 : Nat) : Int) := ziu _ (by omega)
              have e1 : IntKind.i64.wrap ((k : Int) + ((k / 4 : Nat) : Int)) = ((k + k / 4 : Nat) : Int) := by rw [Z5 _ (by omega)]; omega
              have e2 : IntKind.i64.wrap (4 + (((k + k / 4) % 4 : Nat) : Int)) = ((4 + (k + k / 4) % 4 : Nat) : Int) := by rw [Z5 _ (by omega)]; omega
              have e3 : IntKind.i64.wrap (2 * ((k / 4 : Nat) : Int)) = ((2 * (k / 4) : Nat) : Int) := by rw [Z5 _ (by omega)]; omega
              have e4 : IntKind.i64.wrap ((k : Int) + ((2 * (k / 4) : Nat) : Int)) = ((k + 2 * (k / 4) : Nat) : Int) := by rw [Z5 _ (by omega)]; omega
              have e5 : IntKind.i64.wrap (8 + (((k + 2 * (k / 4)) % 4 : Nat) : Int)) = ((8 + (k + 2 * (k / 4)) % 4 : Nat) : Int) := by rw [Z5 _ (by omega)]; omega
              have e6 : IntKind.i64.wrap (3 * ((k / 4 : Nat) : Int)) = ((3 * (k / 4) : Nat) : Int) := by rw [Z5 _ (by omega)]; omega
              have e7 : IntKind.i64.wrap ((k : Int) + ((3 * (k / 4) : Nat) : Int)) = ((k + 3 * (k / 4) : Nat) : Int) := by rw [Z5 _ (by omega)]; omega
              have e8 : IntKind.i64.wrap (12 + (((k + 3 * (k / 4)) % 4 : Nat) : Int)) = ((12 + (k + 3 * (k / 4)) % 4 : Nat) : Int) := by rw [Z5 _ (by omega)]; omega
              have e9 : IntKind.i64.wrap ((k : Int) + 1) = ((k + 1 : Nat) : Int) := by rw [Z5 _ (by omega)]; omega
              simp only [c2_P, Js, zbq, ybl, ybk, Yj, Nat.reduceBEq, Zy, Zw, reduceIte, Nat.reduceEqDiff, reduceCtorEq, ne_eq, if_true, if_false, exA, tabs, exB, exD, hr, Zl, Zp, Ze, Zi, Zn, AV.isAggV, AV.parts, AV.one, AV.solid, Zf, Zb, Zj, Zc, Zk, Zh, Zg, bndA, lenA, Zd, rowOf, Za, intsOf, Zo, Nat.reduceAdd, Nat.reduceSub, Nat.reduceMul, Nat.reduceLeDiff, Nat.reduceLT, Nat.reduceGT, Int.reduceToNat, Int.reduceLE, Int.reduceLT, Int.reduceEq, Int.reduceNe, Int.reduceAdd, Int.reduceSub, Int.reduceMul, Int.reduceNeg, ite_true, ite_false, dite_true, h4, k1, k2, k3, k4, k5, k6, k7, k8, k9, na, Int.toNat_natCast, zz4, yau, e0, e1, e2, e3, e4, e5, e6, e7, e8]
              refine zhy (C := c2 0) (zv7 (Y8 (wordsAt p 128) (Qc (wordsAt p 128) (Y6 h t false) r) r k) (k % 4) (4 + (k + k / 4) % 4) (8 + (k + 2 * (k / 4)) % 4) (12 + (k + 3 * (k / 4)) % 4) ((wordsAt p 128).getD (Jh.getD (16 * (r % 10) + 2 * k) 0) 0) ((wordsAt p 128).getD (Jh.getD (16 * (r % 10) + (2 * k + 1)) 0) 0) (by omega) (by omega) (by omega) (by omega)) [4] ?_ ?_ ?_ ?_ ?_ ?_
              · rfl
              · rfl
              · decide
              · intro q hq
                simp only [List.mem_cons, List.not_mem_nil, or_false] at hq
                subst hq
                simp only [List.length_cons, List.length_nil]; omega
              · intro j hj
                match j, hj with
                | 0, _ => rfl
              · rintro _ _ ⟨rfl, rfl⟩
                simp only [c2_P, Js, zbq, Nat.reduceBEq, Zy, Zw, reduceIte, Nat.reduceEqDiff, reduceCtorEq, ne_eq, if_true, if_false, exA, tabs, exB, exD, hr, Zl, Zp, Ze, Zi, Zn, AV.isAggV, AV.parts, AV.one, AV.solid, Zf, Zb, Zj, Zc, Zk, Zh, Zg, bndA, lenA, Zd, rowOf, Za, intsOf, Zo, Nat.reduceAdd, Nat.reduceSub, Nat.reduceMul, Nat.reduceLeDiff, Nat.reduceLT, Nat.reduceGT, Int.reduceToNat, Int.reduceLE, Int.reduceLT, Int.reduceEq, Int.reduceNe, Int.reduceAdd, Int.reduceSub, Int.reduceMul, Int.reduceNeg, ite_true, ite_false, dite_true, e9, Ya, renB, renL, AV.ren]
                refine ⟨⟨k + 1, by omega⟩, by simp only; omega, Yd ?_⟩
                exact ⟨rfl, rfl, rfl, rfl, rfl, rfl, rfl, trivial⟩
            · have k1 : ¬ (k : Int) < 8 := by omega
              have hk8 : k = 8 := by omega
              subst hk8
              simp only [c2_P, Js, zbq, Nat.reduceBEq, Zy, Zw, reduceIte, Nat.reduceEqDiff, reduceCtorEq, ne_eq, if_true, if_false, exA, tabs, exB, exD, hr, Zl, Zp, Ze, Zi, Zn, AV.isAggV, AV.parts, AV.one, AV.solid, Zf, Zb, Zj, Zc, Zk, Zh, Zg, bndA, lenA, Zd, rowOf, Za, intsOf, Zo, Nat.reduceAdd, Nat.reduceSub, Nat.reduceMul, Nat.reduceLeDiff, Nat.reduceLT, Nat.reduceGT, Int.reduceToNat, Int.reduceLE, Int.reduceLT, Int.reduceEq, Int.reduceNe, Int.reduceAdd, Int.reduceSub, Int.reduceMul, Int.reduceNeg, ite_true, ite_false, dite_true, k1, h7]
              refine ⟨⟨r + 1, by omega⟩, by simp only; omega, Yd ?_⟩
              exact ⟨rfl, rfl, rfl, rfl, rfl, trivial⟩
        · have h1 : ¬ (r : Int) < 12 := by omega
          have hi : r = 12 := by omega
          subst hi
          simp only [c2_P, Js, zbq, Nat.reduceBEq, Zy, Zw, reduceIte, Nat.reduceEqDiff, reduceCtorEq, ne_eq, if_true, if_false, exA, tabs, exB, exD, hr, Zl, Zp, Ze, Zi, Zn, AV.isAggV, AV.parts, AV.one, AV.solid, Zf, Zb, Zj, Zc, Zk, Zh, Zg, bndA, lenA, Zd, rowOf, Za, intsOf, Zo, Nat.reduceAdd, Nat.reduceSub, Nat.reduceMul, Nat.reduceLeDiff, Nat.reduceLT, Nat.reduceGT, Int.reduceToNat, Int.reduceLE, Int.reduceLT, Int.reduceEq, Int.reduceNe, Int.reduceAdd, Int.reduceSub, Int.reduceMul, Int.reduceNeg, ite_true, ite_false, dite_true, h1, na, Int.toNat_natCast]
          refine Qp (zf8 0) (α := {i : Nat // i ≤ 8}) (fun i => ⟨envL [(4, .ptr 0 0 0), (8, .ptr 2 0 0), (10, .ptr 4 0 0), (108, .v (.int .i64 i.val))],
            [some [.arr 8 .u64 (za7 h (Qc (wordsAt p 128) (Y6 h t false) 12) i.val)], some [.arr 128 .u8 p], some [.arr 8 .u64 (List.replicate 8 0)], some [.arr 16 .u64 (wordsAt p 128)], some [.arr 16 .u64 (Qc (wordsAt p 128) (Y6 h t false) 12)], some [.arr 8 .u64 Yz]]⟩) (fun i => 8 - i.val) ⟨0, by omega⟩ (by kernel_rfl) ?_ ?_
          · exact Yd ⟨rfl, rfl, rfl, rfl, trivial⟩
          · rintro ⟨i, hi⟩
            by_cases hit : i < 8
            · have i1 : (i : Int) < 8 := by omega
              have i2 : IntKind.i64.wrap (8 + (i : Int)) = ((8 + i : Nat) : Int) := by rw [Z5 _ (by omega)]; omega
              have i3 : ((8 + i : Nat) : Int) < 16 := by omega
              have i4 : 8 + i < 16 := by omega
              have i5 : (i : Int) < 16 := by omega
              have i6 : i < 16 := by omega
              have i7 : IntKind.i64.wrap ((i : Int) + 1) = ((i + 1 : Nat) : Int) := by rw [Z5 _ (by omega)]; omega
              simp only [c2_P, Js, zbq, Nat.reduceBEq, Zy, Zw, reduceIte, Nat.reduceEqDiff, reduceCtorEq, ne_eq, if_true, if_false, exA, tabs, exB, exD, hr, Zl, Zp, Ze, Zi, Zn, AV.isAggV, AV.parts, AV.one, AV.solid, Zf, Zb, Zj, Zc, Zk, Zh, Zg, bndA, lenA, Zd, rowOf, Za, intsOf, Zo, Nat.reduceAdd, Nat.reduceSub, Nat.reduceMul, Nat.reduceLeDiff, Nat.reduceLT, Nat.reduceGT, Int.reduceToNat, Int.reduceLE, Int.reduceLT, Int.reduceEq, Int.reduceNe, Int.reduceAdd, Int.reduceSub, Int.reduceMul, Int.reduceNeg, ite_true, ite_false, dite_true, na, Int.toNat_natCast, hit, i1, i2, i3, i4, i5, i6, i7]
              refine ⟨⟨i + 1, by omega⟩, by simp only; omega, Yd ?_⟩
              exact ⟨rfl, rfl, rfl, rfl, trivial⟩
            · have i1 : ¬ (i : Int) < 8 := by omega
              have hi8 : i = 8 := by omega
              subst hi8
              have hlen : (za7 h (Qc (wordsAt p 128) (Y6 h t false) 12) 8).length = 8 := by rw [zbj, hh]
              have hT : (za7 h (Qc (wordsAt p 128) (Y6 h t false) 12) 8).take 8 = za7 h (Qc (wordsAt p 128) (Y6 h t false) 12) 8 := List.take_of_length_le (by omega)
              simp only [c2_P, Js, zbq, Nat.reduceBEq, Zy, Zw, reduceIte, Nat.reduceEqDiff, reduceCtorEq, ne_eq, if_true, if_false, exA, tabs, exB, exD, hr, Zl, Zp, Ze, Zi, Zn, AV.isAggV, AV.parts, AV.one, AV.solid, Zf, Zb, Zj, Zc, Zk, Zh, Zg, bndA, lenA, Zd, rowOf, Za, intsOf, Zo, Nat.reduceAdd, Nat.reduceSub, Nat.reduceMul, Nat.reduceLeDiff, Nat.reduceLT, Nat.reduceGT, Int.reduceToNat, Int.reduceLE, Int.reduceLT, Int.reduceEq, Int.reduceNe, Int.reduceAdd, Int.reduceSub, Int.reduceMul, Int.reduceNeg, ite_true, ite_false, dite_true, i1, hT, Q8]
theorem zye (h p : List Int) (t : Int) (hh : h.length = 8) (hp : p.length = 128) :
    Zs Try.prog 23 [.arr 8 .u64 h, .arr 128 .u8 p, .v (.int .u64 t), .v (.bool true)] [] fun v _ => v = .arr 8 .u64 (Q8 h p t true) := by
  refine Zq (zf8 0) Try.func23 rfl ⟨by kernel_rfl, by show 4 ≤ _; decide, by kernel_rfl, by kernel_rfl⟩ rfl ?_
  have hr : Try.f23.results.toList = [.cell 8 30] := rfl
  have hp1 : p.take 128 = p := List.take_of_length_le (by omega)
  simp only [c2_P, Js, zbq, Nat.reduceBEq, Zy, Zw, reduceIte, Nat.reduceEqDiff, reduceCtorEq, ne_eq, if_true, if_false, exA, tabs, exB, exD, hr, Zl, Zp, Ze, Zi, Zn, AV.isAggV, AV.parts, AV.one, AV.solid, Zf, Zb, Zj, Zc, Zk, Zh, Zg, bndA, lenA, Zd, rowOf, Za, intsOf, Zo, Nat.reduceAdd, Nat.reduceSub, Nat.reduceMul, Nat.reduceLeDiff, Nat.reduceLT, Nat.reduceGT, Int.reduceToNat, Int.reduceLE, Int.reduceLT, Int.reduceEq, Int.reduceNe, Int.reduceAdd, Int.reduceSub, Int.reduceMul, Int.reduceNeg, ite_true, ite_false, dite_true, hp1]
  refine Qp (zf8 0) (α := {i : Nat // i ≤ 128}) (fun i => ⟨envL [(2, .v (.int .u64 t)), (3, .v (.bool true)), (4, .ptr 0 0 0), (8, .ptr 2 0 0), (9, .ptr 3 0 0), (10, .ptr 4 0 0), (21, .arr 128 .u8 p), (22, .v (.int .i64 i.val))],
    [some [.arr 8 .u64 h], some [.arr 128 .u8 p], some [.arr 8 .u64 (List.replicate 8 0)], some [.arr 16 .u64 (wordsAt p i.val)], some [.arr 16 .u64 (List.replicate 16 0)]]⟩) (fun i => 128 - i.val) ⟨0, by omega⟩ (by kernel_rfl) ?_ ?_
  · exact Yd (by simp only [List.take_length, List.drop_length, Nat.min_self, List.length_replicate, List.length_append, List.length_set, List.length_map, List.length_range, List.length_take, List.length_drop, Zl, layA, zei, Zp, Ze, J3, Ji, Yq, Y2, Zi, Zn, AV.size, AV.isAggV, AV.parts, AV.one, AV.solid, Zf, zbp, J6, Jl, Ja, Qq, zbf, zcy, zd7, zcz, zfo, zfr, zfq, zie, zfp, zd8, zea, zd9, zf0, zit, zf2, zf1, zf4, zf3, zcf, Zb, Zj, Zc, Zk, Zh, Zg, bndA, lenA, Zd, rowOf, Za, intsOf, Zo, List.getElem?_cons_zero, List.getElem?_cons_succ, List.length_cons, List.length_nil, List.set_cons_zero, List.set_cons_succ, Nat.reduceAdd, Nat.reduceSub, Nat.reduceMul, Nat.reduceLeDiff, Nat.reduceLT, Nat.reduceGT, Int.reduceToNat, Int.reduceLE, Int.reduceLT, Int.reduceEq, Int.reduceNe, Int.reduceAdd, Int.reduceSub, Int.reduceMul, Nat.zero_add, Nat.add_zero, Nat.mul_one, Nat.one_mul, Nat.zero_mul, Nat.mul_zero, Nat.sub_zero, Nat.le_refl, Int.reduceNeg, ge_iff_le, gt_iff_lt, Option.isSome_none, Option.isSome_some, Bool.not_true, Bool.not_false, Bool.not_not, List.take_zero, List.drop_zero, List.tail_cons, or_true, true_or, or_false, false_or, not_true, not_false_iff, Int.ofNat_eq_natCast, Int.cast_ofNat_Int, reduceIte, ite_true, ite_false, dite_true, get_put, zbm, List.getD_cons_zero, List.getD_cons_succ, Nat.reduceEqDiff, reduceIte, and_self, Int.cast_ofNat_Int])
  · rintro ⟨i, hi⟩
    have na : ∀ n : Nat, (0 : Int) ≤ n := fun n => Int.natCast_nonneg n
    by_cases hlt : i < 128
    · have h1 : (i : Int) < 128 := by omega
      have h2 : i / 8 < 16 := by omega
      have h3 : ((i / 8 : Nat) : Int) < 16 := by omega
      have h4 : IntKind.i64.wrap (8 * ((i % 8 : Nat) : Int)) = ((8 * (i % 8) : Nat) : Int) := by rw [Z5 _ (by omega)]; omega
      have h5 : IntKind.i64.wrap ((i / 8 : Nat) : Int) = ((i / 8 : Nat) : Int) := ziu _ (by omega)
      have h6 : IntKind.i64.wrap ((i : Int) + 1) = ((i + 1 : Nat) : Int) := by rw [Z5 _ (by omega)]; omega
      simp only [c2_P, Js, zbq, Nat.reduceBEq, Zy, Zw, reduceIte, Nat.reduceEqDiff, reduceCtorEq, ne_eq, if_true, if_false, exA, tabs, exB, exD, hr, Zl, Zp, Ze, Zi, Zn, AV.isAggV, AV.parts, AV.one, AV.solid, Zf, Zb, Zj, Zc, Zk, Zh, Zg, bndA, lenA, Zd, rowOf, Za, intsOf, Zo, Nat.reduceAdd, Nat.reduceSub, Nat.reduceMul, Nat.reduceLeDiff, Nat.reduceLT, Nat.reduceGT, Int.reduceToNat, Int.reduceLE, Int.reduceLT, Int.reduceEq, Int.reduceNe, Int.reduceAdd, Int.reduceSub, Int.reduceMul, Int.reduceNeg, ite_true, ite_false, dite_true, h1, h2, h3, h4, h5, h6, na, Int.toNat_natCast, zz5, zz3]
      refine ⟨⟨i + 1, by omega⟩, by simp only; omega, Yd ?_⟩
      simp only [List.take_length, List.drop_length, Nat.min_self, List.length_replicate, List.length_append, List.length_set, List.length_map, List.length_range, List.length_take, List.length_drop, Zl, layA, zei, Zp, Ze, J3, Ji, Yq, Y2, Zi, Zn, AV.size, AV.isAggV, AV.parts, AV.one, AV.solid, Zf, zbp, J6, Jl, Ja, Qq, zbf, zcy, zd7, zcz, zfo, zfr, zfq, zie, zfp, zd8, zea, zd9, zf0, zit, zf2, zf1, zf4, zf3, zcf, Zb, Zj, Zc, Zk, Zh, Zg, bndA, lenA, Zd, rowOf, Za, intsOf, Zo, List.getElem?_cons_zero, List.getElem?_cons_succ, List.length_cons, List.length_nil, List.set_cons_zero, List.set_cons_succ, Nat.reduceAdd, Nat.reduceSub, Nat.reduceMul, Nat.reduceLeDiff, Nat.reduceLT, Nat.reduceGT, Int.reduceToNat, Int.reduceLE, Int.reduceLT, Int.reduceEq, Int.reduceNe, Int.reduceAdd, Int.reduceSub, Int.reduceMul, Nat.zero_add, Nat.add_zero, Nat.mul_one, Nat.one_mul, Nat.zero_mul, Nat.mul_zero, Nat.sub_zero, Nat.le_refl, Int.reduceNeg, ge_iff_le, gt_iff_lt, Option.isSome_none, Option.isSome_some, Bool.not_true, Bool.not_false, Bool.not_not, List.take_zero, List.drop_zero, List.tail_cons, or_true, true_or, or_false, false_or, not_true, not_false_iff, Int.ofNat_eq_natCast, Int.cast_ofNat_Int, reduceIte, ite_true, ite_false, dite_true, get_put, zbm, List.getD_cons_zero, List.getD_cons_succ, Nat.reduceEqDiff, reduceIte, and_self]
    · have h1 : ¬ (i : Int) < 128 := by omega
      have hi : i = 128 := by omega
      subst hi
      have hh1 : h.take 8 = h := List.take_of_length_le (by omega)
      have hh2 : h.take 16 = h := List.take_of_length_le (by omega)
      have hA : (List.replicate 16 (0 : Int)).drop 8 = List.replicate 8 0 := rfl
      have hB : (h ++ List.replicate 8 0).take 8 = h := by rw [List.take_append_of_le_length (by omega), hh1]
      have hC : (h ++ List.replicate 8 (0 : Int)).drop 16 = [] := List.drop_eq_nil_of_le (by simp [hh])
      have hD : Yz.take 8 = Yz := rfl
      have hE : Yz.length = 8 := rfl
      have hF : min 8 16 = 8 := rfl
      have hG : IntKind.u64.signed = false := rfl
      simp only [c2_P, Js, zbq, ybm, Yh, Nat.reduceBEq, Zy, Zw, reduceIte, Nat.reduceEqDiff, reduceCtorEq, ne_eq, if_true, if_false, exA, tabs, exB, exD, hr, Zl, Zp, Ze, Zi, Zn, AV.isAggV, AV.parts, AV.one, AV.solid, Zf, Zb, Zj, Zc, Zk, Zh, Zg, bndA, lenA, Zd, rowOf, Za, intsOf, Zo, Nat.reduceAdd, Nat.reduceSub, Nat.reduceMul, Nat.reduceLeDiff, Nat.reduceLT, Nat.reduceGT, Int.reduceToNat, Int.reduceLE, Int.reduceLT, Int.reduceEq, Int.reduceNe, Int.reduceAdd, Int.reduceSub, Int.reduceMul, Int.reduceNeg, ite_true, ite_false, dite_true, h1, na, Int.toNat_natCast, hh1, hh2, hh, hA, hB, hC, hD, hE, hF, hG]
      refine Qp (zf8 0) (α := {i : Nat // i ≤ 12}) (fun i => ⟨envL [(4, .ptr 0 0 0), (8, .ptr 2 0 0), (9, .ptr 3 0 0), (10, .ptr 4 0 0), (56, .v (.int .i64 i.val))],
        [some [.arr 8 .u64 h], some [.arr 128 .u8 p], some [.arr 8 .u64 (List.replicate 8 0)], some [.arr 16 .u64 (wordsAt p 128)], some [.arr 16 .u64 (Qc (wordsAt p 128) (Y6 h t true) i.val)], some [.arr 8 .u64 Yz]]⟩) (fun i => 12 - i.val) ⟨0, by omega⟩ (by kernel_rfl) ?_ ?_
      · exact Yd ⟨rfl, rfl, rfl, rfl, rfl, trivial⟩
      · rintro ⟨r, hi⟩
        have e := @id (ordS = ByteArray.mk (List.append (List.append _ _) (List.append _ _)).toArray) rfl
        rw [← e]
        clear e
        by_cases hlt : r < 12
        · have h1 : (r : Int) < 12 := by omega
          have h2 : IntKind.i64.wrap (16 * ((r % 10 : Nat) : Int)) = ((16 * (r % 10) : Nat) : Int) := by rw [Z5 _ (by omega)]; omega
          have h3 : ((16 * (r % 10) : Nat) : Int) ≤ 160 := by omega
          have h4 : ((ordS.extract (16 * (r % 10)) 160).extract 0 16).size = 16 := by simp only [ByteArray.size_extract, zav]; omega
          have h5 : (16 : Int) ≤ (((ordS.extract (16 * (r % 10)) 160).size : Nat) : Int) := by simp only [ByteArray.size_extract, zav]; omega
          have hlen : (16 * (r % 10)) + 16 ≤ ordS.size := by rw [zav]; omega
          have h6 : ∀ j, j < 16 → zj2 ((((ordS.extract (16 * (r % 10)) 160).extract 0 16).data.toList.getD j 0).toNat : Int) = ((Jh.getD (16 * (r % 10) + j) 0 : Nat) : Int) := by
            intro j hj
            have := zwv ordS (16 * (r % 10)) j 16 hlen hj
            rw [zav] at this
            rw [this]
            exact zpr ⟨16 * (r % 10) + j, by omega⟩
          have h7 : IntKind.i64.wrap ((r : Int) + 1) = ((r + 1 : Nat) : Int) := by rw [Z5 _ (by omega)]; omega
          simp only [c2_P, Js, zbq, Nat.reduceBEq, Zy, Zw, reduceIte, Nat.reduceEqDiff, reduceCtorEq, ne_eq, if_true, if_false, exA, tabs, exB, exD, hr, Zl, Zp, Ze, Zi, Zn, AV.isAggV, AV.parts, AV.one, AV.solid, Zf, Zb, Zj, Zc, Zk, Zh, Zg, bndA, lenA, Zd, rowOf, Za, intsOf, Zo, Nat.reduceAdd, Nat.reduceSub, Nat.reduceMul, Nat.reduceLeDiff, Nat.reduceLT, Nat.reduceGT, Int.reduceToNat, Int.reduceLE, Int.reduceLT, Int.reduceEq, Int.reduceNe, Int.reduceAdd, Int.reduceSub, Int.reduceMul, Int.reduceNeg, ite_true, ite_false, dite_true, h1, h2, h3, h5, na, Int.toNat_natCast, ztg, zav]
          refine Qp (zf8 0) (α := {i : Nat // i ≤ 8}) (fun i => ⟨envL [(4, .ptr 0 0 0), (8, .ptr 2 0 0), (9, .ptr 3 0 0), (10, .ptr 4 0 0), (56, .v (.int .i64 r)), (15, .v (.string ((ordS.extract (16 * (r % 10)) 160).extract 0 16))), (64, .v (.int .i64 i.val))],
            [some [.arr 8 .u64 h], some [.arr 128 .u8 p], some [.arr 8 .u64 (List.replicate 8 0)], some [.arr 16 .u64 (wordsAt p 128)], some [.arr 16 .u64 (Y8 (wordsAt p 128) (Qc (wordsAt p 128) (Y6 h t true) r) r i.val)], some [.arr 8 .u64 Yz]]⟩) (fun i => 8 - i.val) ⟨0, by omega⟩ (by kernel_rfl) ?_ ?_
          · exact Yd ⟨rfl, rfl, rfl, rfl, rfl, rfl, rfl, trivial⟩
          · rintro ⟨k, hk⟩
            by_cases hkt : k < 8
            · have k1 : (k : Int) < 8 := by omega
              have k2 : IntKind.i64.wrap (2 * (k : Int)) = ((2 * k : Nat) : Int) := by rw [Z5 _ (by omega)]; omega
              have k3 : IntKind.i64.wrap (((2 * k : Nat) : Int) + 1) = ((2 * k + 1 : Nat) : Int) := by rw [Z5 _ (by omega)]; omega
              have k4 : ((2 * k : Nat) : Int) < 16 := by omega
              have k5 : ((2 * k + 1 : Nat) : Int) < 16 := by omega
              have k6 := h6 (2 * k) (by omega)
              have k7 := h6 (2 * k + 1) (by omega)
              have k8 : ∀ j, (((Jh.getD j 0 : Nat) : Int) < 16) = True := fun j => eq_true (by have := zdh j; omega)
              have k9 : ∀ j, ((Jh.getD j 0) < 16) = True := fun j => eq_true (zdh j)
              have e0 : IntKind.i64.wrap ((k / 4 : Nat) : Int) = ((k / 4 : Nat) : Int) := ziu _ (by omega)
              have e1 : IntKind.i64.wrap ((k : Int) + ((k / 4 : Nat) : Int)) = ((k + k / 4 : Nat) : Int) := by rw [Z5 _ (by omega)]; omega
              have e2 : IntKind.i64.wrap (4 + (((k + k / 4) % 4 : Nat) : Int)) = ((4 + (k + k / 4) % 4 : Nat) : Int) := by rw [Z5 _ (by omega)]; omega
              have e3 : IntKind.i64.wrap (2 * ((k / 4 : Nat) : Int)) = ((2 * (k / 4) : Nat) : Int) := by rw [Z5 _ (by omega)]; omega
              have e4 : IntKind.i64.wrap ((k : Int) + ((2 * (k / 4) : Nat) : Int)) = ((k + 2 * (k / 4) : Nat) : Int) := by rw [Z5 _ (by omega)]; omega
              have e5 : IntKind.i64.wrap (8 + (((k + 2 * (k / 4)) % 4 : Nat) : Int)) = ((8 + (k + 2 * (k / 4)) % 4 : Nat) : Int) := by rw [Z5 _ (by omega)]; omega
              have e6 : IntKind.i64.wrap (3 * ((k / 4 : Nat) : Int)) = ((3 * (k / 4) : Nat) : Int) := by rw [Z5 _ (by omega)]; omega
              have e7 : IntKind.i64.wrap ((k : Int) + ((3 * (k / 4) : Nat) : Int)) = ((k + 3 * (k / 4) : Nat) : Int) := by rw [Z5 _ (by omega)]; omega
              have e8 : IntKind.i64.wrap (12 + (((k + 3 * (k / 4)) % 4 : Nat) : Int)) = ((12 + (k + 3 * (k / 4)) % 4 : Nat) : Int) := by rw [Z5 _ (by omega)]; omega
              have e9 : IntKind.i64.wrap ((k : Int) + 1) = ((k + 1 : Nat) : Int) := by rw [Z5 _ (by omega)]; omega
              simp only [c2_P, Js, zbq, ybl, ybk, Yj, Nat.reduceBEq, Zy, Zw, reduceIte, Nat.reduceEqDiff, reduceCtorEq, ne_eq, if_true, if_false, exA, tabs, exB, exD, hr, Zl, Zp, Ze, Zi, Zn, AV.isAggV, AV.parts, AV.one, AV.solid, Zf, Zb, Zj, Zc, Zk, Zh, Zg, bndA, lenA, Zd, rowOf, Za, intsOf, Zo, Nat.reduceAdd, Nat.reduceSub, Nat.reduceMul, Nat.reduceLeDiff, Nat.reduceLT, Nat.reduceGT, Int.reduceToNat, Int.reduceLE, Int.reduceLT, Int.reduceEq, Int.reduceNe, Int.reduceAdd, Int.reduceSub, Int.reduceMul, Int.reduceNeg, ite_true, ite_false, dite_true, h4, k1, k2, k3, k4, k5, k6, k7, k8, k9, na, Int.toNat_natCast, zz4, yau, e0, e1, e2, e3, e4, e5, e6, e7, e8]
              refine zhy (C := c2 0) (zv7 (Y8 (wordsAt p 128) (Qc (wordsAt p 128) (Y6 h t true) r) r k) (k % 4) (4 + (k + k / 4) % 4) (8 + (k + 2 * (k / 4)) % 4) (12 + (k + 3 * (k / 4)) % 4) ((wordsAt p 128).getD (Jh.getD (16 * (r % 10) + 2 * k) 0) 0) ((wordsAt p 128).getD (Jh.getD (16 * (r % 10) + (2 * k + 1)) 0) 0) (by omega) (by omega) (by omega) (by omega)) [4] ?_ ?_ ?_ ?_ ?_ ?_
              · rfl
              · rfl
              · decide
              · intro q hq
                simp only [List.mem_cons, List.not_mem_nil, or_false] at hq
                subst hq
                simp only [List.length_cons, List.length_nil]; omega
              · intro j hj
                match j, hj with
                | 0, _ => rfl
              · rintro _ _ ⟨rfl, rfl⟩
                simp only [c2_P, Js, zbq, Nat.reduceBEq, Zy, Zw, reduceIte, Nat.reduceEqDiff, reduceCtorEq, ne_eq, if_true, if_false, exA, tabs, exB, exD, hr, Zl, Zp, Ze, Zi, Zn, AV.isAggV, AV.parts, AV.one, AV.solid, Zf, Zb, Zj, Zc, Zk, Zh, Zg, bndA, lenA, Zd, rowOf, Za, intsOf, Zo, Nat.reduceAdd, Nat.reduceSub, Nat.reduceMul, Nat.reduceLeDiff, Nat.reduceLT, Nat.reduceGT, Int.reduceToNat, Int.reduceLE, Int.reduceLT, Int.reduceEq, Int.reduceNe, Int.reduceAdd, Int.reduceSub, Int.reduceMul, Int.reduceNeg, ite_true, ite_false, dite_true, e9, Ya, renB, renL, AV.ren]
                refine ⟨⟨k + 1, by omega⟩, by simp only; omega, Yd ?_⟩
                exact ⟨rfl, rfl, rfl, rfl, rfl, rfl, rfl, trivial⟩
            · have k1 : ¬ (k : Int) < 8 := by omega
              have hk8 : k = 8 := by omega
              subst hk8
              simp only [c2_P, Js, zbq, Nat.reduceBEq, Zy, Zw, reduceIte, Nat.reduceEqDiff, reduceCtorEq, ne_eq, if_true, if_false, exA, tabs, exB, exD, hr, Zl, Zp, Ze, Zi, Zn, AV.isAggV, AV.parts, AV.one, AV.solid, Zf, Zb, Zj, Zc, Zk, Zh, Zg, bndA, lenA, Zd, rowOf, Za, intsOf, Zo, Nat.reduceAdd, Nat.reduceSub, Nat.reduceMul, Nat.reduceLeDiff, Nat.reduceLT, Nat.reduceGT, Int.reduceToNat, Int.reduceLE, Int.reduceLT, Int.reduceEq, Int.reduceNe, Int.reduceAdd, Int.reduceSub, Int.reduceMul, Int.reduceNeg, ite_true, ite_false, dite_true, k1, h7]
              refine ⟨⟨r + 1, by omega⟩, by simp only; omega, Yd ?_⟩
              exact ⟨rfl, rfl, rfl, rfl, rfl, trivial⟩
        · have h1 : ¬ (r : Int) < 12 := by omega
          have hi : r = 12 := by omega
          subst hi
          simp only [c2_P, Js, zbq, Nat.reduceBEq, Zy, Zw, reduceIte, Nat.reduceEqDiff, reduceCtorEq, ne_eq, if_true, if_false, exA, tabs, exB, exD, hr, Zl, Zp, Ze, Zi, Zn, AV.isAggV, AV.parts, AV.one, AV.solid, Zf, Zb, Zj, Zc, Zk, Zh, Zg, bndA, lenA, Zd, rowOf, Za, intsOf, Zo, Nat.reduceAdd, Nat.reduceSub, Nat.reduceMul, Nat.reduceLeDiff, Nat.reduceLT, Nat.reduceGT, Int.reduceToNat, Int.reduceLE, Int.reduceLT, Int.reduceEq, Int.reduceNe, Int.reduceAdd, Int.reduceSub, Int.reduceMul, Int.reduceNeg, ite_true, ite_false, dite_true, h1, na, Int.toNat_natCast]
          refine Qp (zf8 0) (α := {i : Nat // i ≤ 8}) (fun i => ⟨envL [(4, .ptr 0 0 0), (8, .ptr 2 0 0), (10, .ptr 4 0 0), (108, .v (.int .i64 i.val))],
            [some [.arr 8 .u64 (za7 h (Qc (wordsAt p 128) (Y6 h t true) 12) i.val)], some [.arr 128 .u8 p], some [.arr 8 .u64 (List.replicate 8 0)], some [.arr 16 .u64 (wordsAt p 128)], some [.arr 16 .u64 (Qc (wordsAt p 128) (Y6 h t true) 12)], some [.arr 8 .u64 Yz]]⟩) (fun i => 8 - i.val) ⟨0, by omega⟩ (by kernel_rfl) ?_ ?_
          · exact Yd ⟨rfl, rfl, rfl, rfl, trivial⟩
          · rintro ⟨i, hi⟩
            by_cases hit : i < 8
            · have i1 : (i : Int) < 8 := by omega
              have i2 : IntKind.i64.wrap (8 + (i : Int)) = ((8 + i : Nat) : Int) := by rw [Z5 _ (by omega)]; omega
              have i3 : ((8 + i : Nat) : Int) < 16 := by omega
              have i4 : 8 + i < 16 := by omega
              have i5 : (i : Int) < 16 := by omega
              have i6 : i < 16 := by omega
              have i7 : IntKind.i64.wrap ((i : Int) + 1) = ((i + 1 : Nat) : Int) := by rw [Z5 _ (by omega)]; omega
              simp only [c2_P, Js, zbq, Nat.reduceBEq, Zy, Zw, reduceIte, Nat.reduceEqDiff, reduceCtorEq, ne_eq, if_true, if_false, exA, tabs, exB, exD, hr, Zl, Zp, Ze, Zi, Zn, AV.isAggV, AV.parts, AV.one, AV.solid, Zf, Zb, Zj, Zc, Zk, Zh, Zg, bndA, lenA, Zd, rowOf, Za, intsOf, Zo, Nat.reduceAdd, Nat.reduceSub, Nat.reduceMul, Nat.reduceLeDiff, Nat.reduceLT, Nat.reduceGT, Int.reduceToNat, Int.reduceLE, Int.reduceLT, Int.reduceEq, Int.reduceNe, Int.reduceAdd, Int.reduceSub, Int.reduceMul, Int.reduceNeg, ite_true, ite_false, dite_true, na, Int.toNat_natCast, hit, i1, i2, i3, i4, i5, i6, i7]
              refine ⟨⟨i + 1, by omega⟩, by simp only; omega, Yd ?_⟩
              exact ⟨rfl, rfl, rfl, rfl, trivial⟩
            · have i1 : ¬ (i : Int) < 8 := by omega
              have hi8 : i = 8 := by omega
              subst hi8
              have hlen : (za7 h (Qc (wordsAt p 128) (Y6 h t true) 12) 8).length = 8 := by rw [zbj, hh]
              have hT : (za7 h (Qc (wordsAt p 128) (Y6 h t true) 12) 8).take 8 = za7 h (Qc (wordsAt p 128) (Y6 h t true) 12) 8 := List.take_of_length_le (by omega)
              simp only [c2_P, Js, zbq, Nat.reduceBEq, Zy, Zw, reduceIte, Nat.reduceEqDiff, reduceCtorEq, ne_eq, if_true, if_false, exA, tabs, exB, exD, hr, Zl, Zp, Ze, Zi, Zn, AV.isAggV, AV.parts, AV.one, AV.solid, Zf, Zb, Zj, Zc, Zk, Zh, Zg, bndA, lenA, Zd, rowOf, Za, intsOf, Zo, Nat.reduceAdd, Nat.reduceSub, Nat.reduceMul, Nat.reduceLeDiff, Nat.reduceLT, Nat.reduceGT, Int.reduceToNat, Int.reduceLE, Int.reduceLT, Int.reduceEq, Int.reduceNe, Int.reduceAdd, Int.reduceSub, Int.reduceMul, Int.reduceNeg, ite_true, ite_false, dite_true, i1, hT, Q8]
end Go.Proofs.Ytfnfmbikooeiaaa
namespace Go.Proofs.Ytfnfmbikooeiaaa
open Go.Ax
def F56 : List AV → Option AV
  | [.arr 16 .u64 v, .v (.int .i64 a), .v (.int .i64 b), .v (.int .i64 c), .v (.int .i64 d), .v (.int .u64 x), .v (.int .u64 y)] =>
    Zu (v.length = 16 ∧ (0 ≤ a ∧ a < 16) ∧ (0 ≤ b ∧ b < 16) ∧ (0 ≤ c ∧ c < 16) ∧ (0 ≤ d ∧ d < 16)) (some (.arr 16 .u64 (mixL v a.toNat b.toNat c.toNat d.toNat x y)))
  | _ => none
theorem Yf (v : List Int) (a b c d x y : Int) : F56 [.arr 16 .u64 v, .v (.int .i64 a), .v (.int .i64 b), .v (.int .i64 c), .v (.int .i64 d), .v (.int .u64 x), .v (.int .u64 y)] =
    Zu (v.length = 16 ∧ (0 ≤ a ∧ a < 16) ∧ (0 ≤ b ∧ b < 16) ∧ (0 ≤ c ∧ c < 16) ∧ (0 ≤ d ∧ d < 16)) (some (.arr 16 .u64 (mixL v a.toNat b.toNat c.toNat d.toNat x y))) := rfl
noncomputable def p3 : FuncId → Option (List AV → Option AV) := Qb p2 56 F56
noncomputable def c3 (k : Nat) : Cfg := ⟨Try.prog, k, p3, [], fun _ => none, none, []⟩
noncomputable def c3o (k : Nat) : Cfg := ⟨Try.prog, k, p3, [10], fun _ => none, none, []⟩
theorem Qn (k : Nat) : (c3o k).odd = [10] := rfl
theorem Je (k : Nat) : (c3o k).ro = [] := rfl
theorem zaj (k : Nat) : (c3o k).P = Try.prog := rfl
theorem zt9 (k : Nat) : (c3o k).pure 55 = some F55 := rfl
theorem zt8 (k : Nat) : (c3o k).pure 56 = some F56 := rfl
theorem z7b (k : Nat) : (c3o k).pure 26 = some F25 := rfl
theorem ybd (k : Nat) : (c3 k).Good := by
  refine Cfg.Good.add (zf8 k) ?_ k
  intro args v hF h κ hκ
  unfold F56 at hF
  split at hF
  · rename_i v0 a b c d x y
    obtain ⟨⟨h0, ⟨a1, a2⟩, ⟨b1, b2⟩, ⟨c1, c2⟩, d1, d2⟩, h5⟩ := Zt hF
    cases h5
    obtain ⟨a, rfl⟩ := Int.eq_ofNat_of_zero_le a1
    obtain ⟨b, rfl⟩ := Int.eq_ofNat_of_zero_le b1
    obtain ⟨c, rfl⟩ := Int.eq_ofNat_of_zero_le c1
    obtain ⟨d, rfl⟩ := Int.eq_ofNat_of_zero_le d1
    exact Yn (z2q v0 a b c d x y h0 (by omega) (by omega) (by omega) (by omega)) (fun g => rfl) (fun g => rfl) h κ hκ
  · cases hF
theorem zcn (k : Nat) : (c3o k).Good := (ybd k).odd [10]
theorem ztm (h p : List Int) (t : Int) (hh : h.length = 8) (hp : p.length = 128) :
    Zs Try.prog 24 [.arr 8 .u64 h, .arr 128 .u8 p, .v (.int .u64 t), .v (.bool false)] [] fun v _ => v = .arr 8 .u64 (Q8 h p t false) := by
  refine Zq (zcn 0) Try.func24 rfl ⟨by kernel_rfl, by show 4 ≤ _; decide, by kernel_rfl, by kernel_rfl⟩ rfl ?_
  have hr : Try.f24.results.toList = [.cell 8 30] := rfl
  have na : ∀ n : Nat, (0 : Int) ≤ n := fun n => Int.natCast_nonneg n
  simp only [zaj, Qn, Je, Nat.reduceBEq, Zy, Zw, reduceIte, Nat.reduceEqDiff, reduceCtorEq, ne_eq, if_true, if_false, exA, tabs, exB, exD, hr, Zl, Zp, Ze, Zi, Zn, AV.isAggV, AV.parts, AV.one, AV.solid, Zf, Zb, Zj, Zc, Zk, Zh, Zg, bndA, lenA, Zd, rowOf, Za, intsOf, Zo, Nat.reduceAdd, Nat.reduceSub, Nat.reduceMul, Nat.reduceLeDiff, Nat.reduceLT, Nat.reduceGT, Int.reduceToNat, Int.reduceLE, Int.reduceLT, Int.reduceEq, Int.reduceNe, Int.reduceAdd, Int.reduceSub, Int.reduceMul, Int.reduceNeg, ite_true, ite_false, dite_true]
  refine Qp (zcn 0) (α := {i : Nat // i ≤ 128}) (fun i => ⟨envL [(2, .v (.int .u64 t)), (3, .v (.bool false)), (4, .ptr 0 0 0), (5, .ptr 1 0 0), (8, .ptr 2 0 0), (9, .ptr 3 0 0), (10, .ptr 4 0 0), (11, .v (.int .i64 i.val))],
    [some [.arr 8 .u64 h], some [.arr 128 .u8 p], some [.arr 8 .u64 (List.replicate 8 0)], some [.arr 16 .u64 (wordsAt p i.val)], some [.arr 16 .u64 (List.replicate 16 0)]]⟩) (fun i => 128 - i.val) ⟨0, by omega⟩ (by kernel_rfl) ?_ ?_
  · exact Yd ⟨rfl, rfl, rfl, rfl, rfl, rfl, rfl, rfl, trivial⟩
  · rintro ⟨i, hi⟩
    by_cases hlt : i < 128
    · have h1 : (i : Int) < 128 := by omega
      have h2 : i / 8 < 16 := by omega
      have h3 : ((i / 8 : Nat) : Int) < 16 := by omega
      have h4 : IntKind.i64.wrap (8 * ((i % 8 : Nat) : Int)) = ((8 * (i % 8) : Nat) : Int) := by rw [Z5 _ (by omega)]; omega
      have h5 : IntKind.i64.wrap ((i / 8 : Nat) : Int) = ((i / 8 : Nat) : Int) := ziu _ (by omega)
      have h6 : IntKind.i64.wrap ((i : Int) + 1) = ((i + 1 : Nat) : Int) := by rw [Z5 _ (by omega)]; omega
      simp only [zaj, Qn, Je, Nat.reduceBEq, Zy, Zw, reduceIte, Nat.reduceEqDiff, reduceCtorEq, ne_eq, if_true, if_false, exA, tabs, exB, exD, hr, Zl, Zp, Ze, Zi, Zn, AV.isAggV, AV.parts, AV.one, AV.solid, Zf, Zb, Zj, Zc, Zk, Zh, Zg, bndA, lenA, Zd, rowOf, Za, intsOf, Zo, Nat.reduceAdd, Nat.reduceSub, Nat.reduceMul, Nat.reduceLeDiff, Nat.reduceLT, Nat.reduceGT, Int.reduceToNat, Int.reduceLE, Int.reduceLT, Int.reduceEq, Int.reduceNe, Int.reduceAdd, Int.reduceSub, Int.reduceMul, Int.reduceNeg, ite_true, ite_false, dite_true, hlt, h1, h2, h3, h4, h5, h6, na, Int.toNat_natCast, zz5, zz3]
      refine ⟨⟨i + 1, by omega⟩, by simp only; omega, Yd ?_⟩
      exact ⟨rfl, rfl, rfl, rfl, rfl, rfl, rfl, rfl, trivial⟩
    · have h1 : ¬ (i : Int) < 128 := by omega
      have hi : i = 128 := by omega
      subst hi
      have hD : Yz.take 8 = Yz := rfl
      simp only [zaj, Qn, Je, z7b, Yh, Nat.reduceBEq, Zy, Zw, reduceIte, Nat.reduceEqDiff, reduceCtorEq, ne_eq, if_true, if_false, exA, tabs, exB, exD, hr, Zl, Zp, Ze, Zi, Zn, AV.isAggV, AV.parts, AV.one, AV.solid, Zf, Zb, Zj, Zc, Zk, Zh, Zg, bndA, lenA, Zd, rowOf, Za, intsOf, Zo, Nat.reduceAdd, Nat.reduceSub, Nat.reduceMul, Nat.reduceLeDiff, Nat.reduceLT, Nat.reduceGT, Int.reduceToNat, Int.reduceLE, Int.reduceLT, Int.reduceEq, Int.reduceNe, Int.reduceAdd, Int.reduceSub, Int.reduceMul, Int.reduceNeg, ite_true, ite_false, dite_true, h1, na, Int.toNat_natCast, hD]
      refine Qp (zcn 0) (α := {i : Nat // i ≤ 8}) (fun i => ⟨envL [(2, .v (.int .u64 t)), (3, .v (.bool false)), (4, .ptr 0 0 0), (8, .ptr 2 0 0), (9, .ptr 3 0 0), (10, .ptr 4 0 0), (12, .ptr 5 0 0), (13, .v (.int .i64 i.val))],
        [some [.arr 8 .u64 h], some [.arr 128 .u8 p], some [.arr 8 .u64 (List.replicate 8 0)], some [.arr 16 .u64 (wordsAt p 128)], some [.arr 16 .u64 (z0r h i.val)], some [.arr 8 .u64 Yz]]⟩) (fun i => 8 - i.val) ⟨0, by omega⟩ (by kernel_rfl) ?_ ?_
      · exact Yd ⟨rfl, rfl, rfl, rfl, rfl, rfl, rfl, rfl, trivial⟩
      rintro ⟨i, hi⟩
      by_cases hit : i < 8
      · have i1 : (i : Int) < 8 := by omega
        have i2 : IntKind.i64.wrap (8 + (i : Int)) = ((8 + i : Nat) : Int) := by rw [Z5 _ (by omega)]; omega
        have i3 : ((8 + i : Nat) : Int) < 16 := by omega
        have i4 : 8 + i < 16 := by omega
        have i5 : (i : Int) < 16 := by omega
        have i6 : i < 16 := by omega
        have i7 : IntKind.i64.wrap ((i : Int) + 1) = ((i + 1 : Nat) : Int) := by rw [Z5 _ (by omega)]; omega
        simp only [zaj, Qn, Je, Nat.reduceBEq, Zy, Zw, reduceIte, Nat.reduceEqDiff, reduceCtorEq, ne_eq, if_true, if_false, exA, tabs, exB, exD, hr, Zl, Zp, Ze, Zi, Zn, AV.isAggV, AV.parts, AV.one, AV.solid, Zf, Zb, Zj, Zc, Zk, Zh, Zg, bndA, lenA, Zd, rowOf, Za, intsOf, Zo, Nat.reduceAdd, Nat.reduceSub, Nat.reduceMul, Nat.reduceLeDiff, Nat.reduceLT, Nat.reduceGT, Int.reduceToNat, Int.reduceLE, Int.reduceLT, Int.reduceEq, Int.reduceNe, Int.reduceAdd, Int.reduceSub, Int.reduceMul, Int.reduceNeg, ite_true, ite_false, dite_true, i1]
        refine ztx (zcn 0) (.first 0 (.first 1 (.first 2 (.first 3 (.first 4 (.first 5 (.first 6 (.first 7 (.first 9 (.fork 8 (.fork 10 (.first 11 (.fork 12 .done .stop)) .stop) (.fork 10 (.first 8 (.first 11 (.fork 12 .done .stop))) .stop))))))))))) (by kernel_rfl) ?_
        simp only [zaj, Qn, Je, Nat.reduceBEq, Zy, Zw, reduceIte, Nat.reduceEqDiff, reduceCtorEq, ne_eq, if_true, if_false, exA, tabs, exB, exD, hr, Zl, Zp, Ze, Zi, Zn, AV.isAggV, AV.parts, AV.one, AV.solid, Zf, Zb, Zj, Zc, Zk, Zh, Zg, bndA, lenA, Zd, rowOf, Za, intsOf, Zo, Nat.reduceAdd, Nat.reduceSub, Nat.reduceMul, Nat.reduceLeDiff, Nat.reduceLT, Nat.reduceGT, Int.reduceToNat, Int.reduceLE, Int.reduceLT, Int.reduceEq, Int.reduceNe, Int.reduceAdd, Int.reduceSub, Int.reduceMul, Int.reduceNeg, ite_true, ite_false, dite_true, na, Int.toNat_natCast, hit, i1, i2, i3, i4, i5, i6, i7]
        refine ⟨⟨i + 1, by omega⟩, by simp only; omega, Yd ?_⟩
        exact ⟨rfl, rfl, rfl, rfl, rfl, rfl, rfl, rfl, trivial⟩
      have i1 : ¬ (i : Int) < 8 := by omega
      have hi8 : i = 8 := by omega
      subst hi8
      have hG : IntKind.u64.signed = false := rfl
      have hL := zwj h hh
      simp only [zaj, Qn, Je, Nat.reduceBEq, Zy, Zw, reduceIte, Nat.reduceEqDiff, reduceCtorEq, ne_eq, if_true, if_false, exA, tabs, exB, exD, hr, Zl, Zp, Ze, Zi, Zn, AV.isAggV, AV.parts, AV.one, AV.solid, Zf, Zb, Zj, Zc, Zk, Zh, Zg, bndA, lenA, Zd, rowOf, Za, intsOf, Zo, Nat.reduceAdd, Nat.reduceSub, Nat.reduceMul, Nat.reduceLeDiff, Nat.reduceLT, Nat.reduceGT, Int.reduceToNat, Int.reduceLE, Int.reduceLT, Int.reduceEq, Int.reduceNe, Int.reduceAdd, Int.reduceSub, Int.reduceMul, Int.reduceNeg, ite_true, ite_false, dite_true, i1, na, Int.toNat_natCast, hG, hL]
      refine Qp (zcn 0) (α := {i : Nat // i ≤ 12}) (fun i => ⟨envL [(4, .ptr 0 0 0), (8, .ptr 2 0 0), (9, .ptr 3 0 0), (10, .ptr 4 0 0), (14, .v (.int .i64 i.val))],
        [some [.arr 8 .u64 h], some [.arr 128 .u8 p], some [.arr 8 .u64 (List.replicate 8 0)], some [.arr 16 .u64 (wordsAt p 128)], some [.arr 16 .u64 (Qc (wordsAt p 128) (Y6 h t false) i.val)], some [.arr 8 .u64 Yz]]⟩) (fun i => 12 - i.val) ⟨0, by omega⟩ (by kernel_rfl) ?_ ?_
      · exact Yd ⟨rfl, rfl, rfl, rfl, rfl, trivial⟩
      · rintro ⟨r, hi⟩
        by_cases hlt : r < 12
        · have h1 : (r : Int) < 12 := by omega
          have h7 : IntKind.i64.wrap ((r : Int) + 1) = ((r + 1 : Nat) : Int) := by rw [Z5 _ (by omega)]; omega
          simp only [zaj, Qn, Je, Nat.reduceBEq, Zy, Zw, reduceIte, Nat.reduceEqDiff, reduceCtorEq, ne_eq, if_true, if_false, exA, tabs, exB, exD, hr, Zl, Zp, Ze, Zi, Zn, AV.isAggV, AV.parts, AV.one, AV.solid, Zf, Zb, Zj, Zc, Zk, Zh, Zg, bndA, lenA, Zd, rowOf, Za, intsOf, Zo, Nat.reduceAdd, Nat.reduceSub, Nat.reduceMul, Nat.reduceLeDiff, Nat.reduceLT, Nat.reduceGT, Int.reduceToNat, Int.reduceLE, Int.reduceLT, Int.reduceEq, Int.reduceNe, Int.reduceAdd, Int.reduceSub, Int.reduceMul, Int.reduceNeg, ite_true, ite_false, dite_true, h1, na, Int.toNat_natCast, ztg]
          refine Qp (zcn 0) (α := {i : Nat // i ≤ 8}) (fun i => ⟨envL [(4, .ptr 0 0 0), (8, .ptr 2 0 0), (9, .ptr 3 0 0), (10, .ptr 4 0 0), (14, .v (.int .i64 r)), (15, .v (.int .i64 ((r % 10 : Nat) : Int))), (16, .v (.int .i64 i.val))],
            [some [.arr 8 .u64 h], some [.arr 128 .u8 p], some [.arr 8 .u64 (List.replicate 8 0)], some [.arr 16 .u64 (wordsAt p 128)], some [.arr 16 .u64 (Y8 (wordsAt p 128) (Qc (wordsAt p 128) (Y6 h t false) r) r i.val)], some [.arr 8 .u64 Yz]]⟩) (fun i => 8 - i.val) ⟨0, by omega⟩ (by kernel_rfl) ?_ ?_
          · exact Yd ⟨rfl, rfl, rfl, rfl, rfl, rfl, rfl, trivial⟩
          · rintro ⟨k, hk⟩
            by_cases hkt : k < 8
            · have k1 : (k : Int) < 8 := by omega
              have k2 : IntKind.i64.wrap (2 * (k : Int)) = ((2 * k : Nat) : Int) := by rw [Z5 _ (by omega)]; omega
              have k3 : IntKind.i64.wrap (((2 * k : Nat) : Int) + 1) = ((2 * k + 1 : Nat) : Int) := by rw [Z5 _ (by omega)]; omega
              have k4 : ((2 * k : Nat) : Int) < 16 := by omega
              have k5 : ((2 * k + 1 : Nat) : Int) < 16 := by omega
              have k6 : ((r % 10 : Nat) : Int) < 10 := by omega
              have k8 : ∀ j, (((Jh.getD j 0 : Nat) : Int) < 16) = True := fun j => eq_true (by have := zdh j; omega)
              have k9 : ∀ j, ((Jh.getD j 0) < 16) = True := fun j => eq_true (zdh j)
              have e9 : IntKind.i64.wrap ((k : Int) + 1) = ((k + 1 : Nat) : Int) := by rw [Z5 _ (by omega)]; omega
              have hvl : (Y8 (wordsAt p 128) (Qc (wordsAt p 128) (Y6 h t false) r) r k).length = 16 := by rw [zcg, zgw, zkg h t false hh]
              have hvt : (Y8 (wordsAt p 128) (Qc (wordsAt p 128) (Y6 h t false) r) r k).take 16 = Y8 (wordsAt p 128) (Qc (wordsAt p 128) (Y6 h t false) r) r k := List.take_of_length_le (by omega)
              by_cases hk4 : k < 4
              · have m0 : (k : Int) < 4 := by omega
                have m1 : IntKind.i64.wrap ((k : Int) + 4) = ((k + 4 : Nat) : Int) := by rw [Z5 _ (by omega)]; omega
                have m2 : IntKind.i64.wrap ((k : Int) + 8) = ((k + 8 : Nat) : Int) := by rw [Z5 _ (by omega)]; omega
                have m3 : IntKind.i64.wrap ((k : Int) + 12) = ((k + 12 : Nat) : Int) := by rw [Z5 _ (by omega)]; omega
                have m4 : (k : Int) < 16 := by omega
                have m5 : ((k + 4 : Nat) : Int) < 16 := by omega
                have m6 : ((k + 8 : Nat) : Int) < 16 := by omega
                have m7 : ((k + 12 : Nat) : Int) < 16 := by omega
                simp only [zaj, Qn, Je, zt9, zt8, Yg, Yf, Nat.reduceBEq, Zy, Zw, reduceIte, Nat.reduceEqDiff, reduceCtorEq, ne_eq, if_true, if_false, exA, tabs, exB, exD, hr, Zl, Zp, Ze, Zi, Zn, AV.isAggV, AV.parts, AV.one, AV.solid, Zf, Zb, Zj, Zc, Zk, Zh, Zg, bndA, lenA, Zd, rowOf, Za, intsOf, Zo, Nat.reduceAdd, Nat.reduceSub, Nat.reduceMul, Nat.reduceLeDiff, Nat.reduceLT, Nat.reduceGT, Int.reduceToNat, Int.reduceLE, Int.reduceLT, Int.reduceEq, Int.reduceNe, Int.reduceAdd, Int.reduceSub, Int.reduceMul, Int.reduceNeg, ite_true, ite_false, dite_true, k1, k2, k3, k4, k5, k6, k8, k9, m0, m1, m2, m3, m4, m5, m6, m7, e9, hvl, hvt, na, Int.toNat_natCast]
                refine ⟨⟨k + 1, by omega⟩, by simp only; omega, ?_⟩
                have hk0 : k / 4 = 0 := by omega
                have hs : mixL (Y8 (wordsAt p 128) (Qc (wordsAt p 128) (Y6 h t false) r) r k) k (k + 4) (k + 8) (k + 12) ((wordsAt p 128).getD (Jh.getD (16 * (r % 10) + 2 * k) 0) 0) ((wordsAt p 128).getD (Jh.getD (16 * (r % 10) + (2 * k + 1)) 0) 0)
                    = Y8 (wordsAt p 128) (Qc (wordsAt p 128) (Y6 h t false) r) r (k + 1) := by
                  simp only [Y8, zl7, hk0, Nat.mul_zero, Nat.add_zero]
                  rw [show k % 4 = k from by omega, show 4 + k = k + 4 from by omega, show 8 + k = k + 8 from by omega, show 12 + k = k + 12 from by omega]
                rw [hs]
                exact Yd ⟨rfl, rfl, rfl, rfl, rfl, rfl, rfl, trivial⟩
              · have m0 : ¬ (k : Int) < 4 := by omega
                have m1 : IntKind.i64.wrap ((k : Int) - 4) = ((k - 4 : Nat) : Int) := by rw [Z5 _ (by omega)]; omega
                have m2 : IntKind.i64.wrap ((k : Int) + 2) = ((k + 2 : Nat) : Int) := by rw [Z5 _ (by omega)]; omega
                have m3 : IntKind.i64.wrap ((k : Int) + 3) = ((k + 3 : Nat) : Int) := by rw [Z5 _ (by omega)]; omega
                have m4 : ((k - 4 : Nat) : Int) < 16 := by omega
                have n1 : IntKind.i64.wrap (4 + (((k + 1) % 4 : Nat) : Int)) = ((4 + (k + 1) % 4 : Nat) : Int) := by rw [Z5 _ (by omega)]; omega
                have n2 : IntKind.i64.wrap (8 + (((k + 2) % 4 : Nat) : Int)) = ((8 + (k + 2) % 4 : Nat) : Int) := by rw [Z5 _ (by omega)]; omega
                have n3 : IntKind.i64.wrap (12 + (((k + 3) % 4 : Nat) : Int)) = ((12 + (k + 3) % 4 : Nat) : Int) := by rw [Z5 _ (by omega)]; omega
                have m5 : ((4 + (k + 1) % 4 : Nat) : Int) < 16 := by omega
                have m6 : ((8 + (k + 2) % 4 : Nat) : Int) < 16 := by omega
                have m7 : ((12 + (k + 3) % 4 : Nat) : Int) < 16 := by omega
                simp only [zaj, Qn, Je, zt9, zt8, Yg, Yf, Nat.reduceBEq, Zy, Zw, reduceIte, Nat.reduceEqDiff, reduceCtorEq, ne_eq, if_true, if_false, exA, tabs, exB, exD, hr, Zl, Zp, Ze, Zi, Zn, AV.isAggV, AV.parts, AV.one, AV.solid, Zf, Zb, Zj, Zc, Zk, Zh, Zg, bndA, lenA, Zd, rowOf, Za, intsOf, Zo, Nat.reduceAdd, Nat.reduceSub, Nat.reduceMul, Nat.reduceLeDiff, Nat.reduceLT, Nat.reduceGT, Int.reduceToNat, Int.reduceLE, Int.reduceLT, Int.reduceEq, Int.reduceNe, Int.reduceAdd, Int.reduceSub, Int.reduceMul, Int.reduceNeg, ite_true, ite_false, dite_true, k1, k2, k3, k4, k5, k6, k8, k9, m0, m1, m2, m3, m4, m5, m6, m7, n1, n2, n3, e9, hvl, hvt, na, Int.toNat_natCast, zz4]
                refine ⟨⟨k + 1, by omega⟩, by simp only; omega, ?_⟩
                have hk0 : k / 4 = 1 := by omega
                have hs : mixL (Y8 (wordsAt p 128) (Qc (wordsAt p 128) (Y6 h t false) r) r k) (k - 4) (4 + (k + 1) % 4) (8 + (k + 2) % 4) (12 + (k + 3) % 4) ((wordsAt p 128).getD (Jh.getD (16 * (r % 10) + 2 * k) 0) 0) ((wordsAt p 128).getD (Jh.getD (16 * (r % 10) + (2 * k + 1)) 0) 0)
                    = Y8 (wordsAt p 128) (Qc (wordsAt p 128) (Y6 h t false) r) r (k + 1) := by
                  simp only [Y8, zl7, hk0, Nat.mul_one]
                  rw [show k % 4 = k - 4 from by omega]
                rw [hs]
                exact Yd ⟨rfl, rfl, rfl, rfl, rfl, rfl, rfl, trivial⟩
            · have k1 : ¬ (k : Int) < 8 := by omega
              have hk8 : k = 8 := by omega
              subst hk8
              simp only [zaj, Qn, Je, Nat.reduceBEq, Zy, Zw, reduceIte, Nat.reduceEqDiff, reduceCtorEq, ne_eq, if_true, if_false, exA, tabs, exB, exD, hr, Zl, Zp, Ze, Zi, Zn, AV.isAggV, AV.parts, AV.one, AV.solid, Zf, Zb, Zj, Zc, Zk, Zh, Zg, bndA, lenA, Zd, rowOf, Za, intsOf, Zo, Nat.reduceAdd, Nat.reduceSub, Nat.reduceMul, Nat.reduceLeDiff, Nat.reduceLT, Nat.reduceGT, Int.reduceToNat, Int.reduceLE, Int.reduceLT, Int.reduceEq, Int.reduceNe, Int.reduceAdd, Int.reduceSub, Int.reduceMul, Int.reduceNeg, ite_true, ite_false, dite_true, k1, h7]
              refine ⟨⟨r + 1, by omega⟩, by simp only; omega, Yd ?_⟩
              exact ⟨rfl, rfl, rfl, rfl, rfl, trivial⟩
        · have h1 : ¬ (r : Int) < 12 := by omega
          have hi : r = 12 := by omega
          subst hi
          simp only [zaj, Qn, Je, Nat.reduceBEq, Zy, Zw, reduceIte, Nat.reduceEqDiff, reduceCtorEq, ne_eq, if_true, if_false, exA, tabs, exB, exD, hr, Zl, Zp, Ze, Zi, Zn, AV.isAggV, AV.parts, AV.one, AV.solid, Zf, Zb, Zj, Zc, Zk, Zh, Zg, bndA, lenA, Zd, rowOf, Za, intsOf, Zo, Nat.reduceAdd, Nat.reduceSub, Nat.reduceMul, Nat.reduceLeDiff, Nat.reduceLT, Nat.reduceGT, Int.reduceToNat, Int.reduceLE, Int.reduceLT, Int.reduceEq, Int.reduceNe, Int.reduceAdd, Int.reduceSub, Int.reduceMul, Int.reduceNeg, ite_true, ite_false, dite_true, h1, na, Int.toNat_natCast]
          refine Qp (zcn 0) (α := {i : Nat // i ≤ 8}) (fun i => ⟨envL [(4, .ptr 0 0 0), (8, .ptr 2 0 0), (10, .ptr 4 0 0), (19, .v (.int .i64 i.val))],
            [some [.arr 8 .u64 (za7 h (Qc (wordsAt p 128) (Y6 h t false) 12) i.val)], some [.arr 128 .u8 p], some [.arr 8 .u64 (List.replicate 8 0)], some [.arr 16 .u64 (wordsAt p 128)], some [.arr 16 .u64 (Qc (wordsAt p 128) (Y6 h t false) 12)], some [.arr 8 .u64 Yz]]⟩) (fun i => 8 - i.val) ⟨0, by omega⟩ (by kernel_rfl) ?_ ?_
          · exact Yd ⟨rfl, rfl, rfl, rfl, trivial⟩
          · rintro ⟨i, hi⟩
            by_cases hit : i < 8
            · have i1 : (i : Int) < 8 := by omega
              have i2 : IntKind.i64.wrap (8 + (i : Int)) = ((8 + i : Nat) : Int) := by rw [Z5 _ (by omega)]; omega
              have i3 : ((8 + i : Nat) : Int) < 16 := by omega
              have i4 : 8 + i < 16 := by omega
              have i5 : (i : Int) < 16 := by omega
              have i6 : i < 16 := by omega
              have i7 : IntKind.i64.wrap ((i : Int) + 1) = ((i + 1 : Nat) : Int) := by rw [Z5 _ (by omega)]; omega
              simp only [zaj, Qn, Je, Nat.reduceBEq, Zy, Zw, reduceIte, Nat.reduceEqDiff, reduceCtorEq, ne_eq, if_true, if_false, exA, tabs, exB, exD, hr, Zl, Zp, Ze, Zi, Zn, AV.isAggV, AV.parts, AV.one, AV.solid, Zf, Zb, Zj, Zc, Zk, Zh, Zg, bndA, lenA, Zd, rowOf, Za, intsOf, Zo, Nat.reduceAdd, Nat.reduceSub, Nat.reduceMul, Nat.reduceLeDiff, Nat.reduceLT, Nat.reduceGT, Int.reduceToNat, Int.reduceLE, Int.reduceLT, Int.reduceEq, Int.reduceNe, Int.reduceAdd, Int.reduceSub, Int.reduceMul, Int.reduceNeg, ite_true, ite_false, dite_true, na, Int.toNat_natCast, hit, i1, i2, i3, i4, i5, i6, i7, zee]
              refine ⟨⟨i + 1, by omega⟩, by simp only; omega, Yd ?_⟩
              exact ⟨rfl, rfl, rfl, rfl, trivial⟩
            · have i1 : ¬ (i : Int) < 8 := by omega
              have hi8 : i = 8 := by omega
              subst hi8
              have hlen : (za7 h (Qc (wordsAt p 128) (Y6 h t false) 12) 8).length = 8 := by rw [zbj, hh]
              have hT : (za7 h (Qc (wordsAt p 128) (Y6 h t false) 12) 8).take 8 = za7 h (Qc (wordsAt p 128) (Y6 h t false) 12) 8 := List.take_of_length_le (by omega)
              simp only [zaj, Qn, Je, Nat.reduceBEq, Zy, Zw, reduceIte, Nat.reduceEqDiff, reduceCtorEq, ne_eq, if_true, if_false, exA, tabs, exB, exD, hr, Zl, Zp, Ze, Zi, Zn, AV.isAggV, AV.parts, AV.one, AV.solid, Zf, Zb, Zj, Zc, Zk, Zh, Zg, bndA, lenA, Zd, rowOf, Za, intsOf, Zo, Nat.reduceAdd, Nat.reduceSub, Nat.reduceMul, Nat.reduceLeDiff, Nat.reduceLT, Nat.reduceGT, Int.reduceToNat, Int.reduceLE, Int.reduceLT, Int.reduceEq, Int.reduceNe, Int.reduceAdd, Int.reduceSub, Int.reduceMul, Int.reduceNeg, ite_true, ite_false, dite_true, i1, hT, Q8]
theorem zvb (h p : List Int) (t : Int) (hh : h.length = 8) (hp : p.length = 128) :
    Zs Try.prog 24 [.arr 8 .u64 h, .arr 128 .u8 p, .v (.int .u64 t), .v (.bool true)] [] fun v _ => v = .arr 8 .u64 (Q8 h p t true) := by
  refine Zq (zcn 0) Try.func24 rfl ⟨by kernel_rfl, by show 4 ≤ _; decide, by kernel_rfl, by kernel_rfl⟩ rfl ?_
  have hr : Try.f24.results.toList = [.cell 8 30] := rfl
  have na : ∀ n : Nat, (0 : Int) ≤ n := fun n => Int.natCast_nonneg n
  simp only [zaj, Qn, Je, Nat.reduceBEq, Zy, Zw, reduceIte, Nat.reduceEqDiff, reduceCtorEq, ne_eq, if_true, if_false, exA, tabs, exB, exD, hr, Zl, Zp, Ze, Zi, Zn, AV.isAggV, AV.parts, AV.one, AV.solid, Zf, Zb, Zj, Zc, Zk, Zh, Zg, bndA, lenA, Zd, rowOf, Za, intsOf, Zo, Nat.reduceAdd, Nat.reduceSub, Nat.reduceMul, Nat.reduceLeDiff, Nat.reduceLT, Nat.reduceGT, Int.reduceToNat, Int.reduceLE, Int.reduceLT, Int.reduceEq, Int.reduceNe, Int.reduceAdd, Int.reduceSub, Int.reduceMul, Int.reduceNeg, ite_true, ite_false, dite_true]
  refine Qp (zcn 0) (α := {i : Nat // i ≤ 128}) (fun i => ⟨envL [(2, .v (.int .u64 t)), (3, .v (.bool true)), (4, .ptr 0 0 0), (5, .ptr 1 0 0), (8, .ptr 2 0 0), (9, .ptr 3 0 0), (10, .ptr 4 0 0), (11, .v (.int .i64 i.val))],
    [some [.arr 8 .u64 h], some [.arr 128 .u8 p], some [.arr 8 .u64 (List.replicate 8 0)], some [.arr 16 .u64 (wordsAt p i.val)], some [.arr 16 .u64 (List.replicate 16 0)]]⟩) (fun i => 128 - i.val) ⟨0, by omega⟩ (by kernel_rfl) ?_ ?_
  · exact Yd ⟨rfl, rfl, rfl, rfl, rfl, rfl, rfl, rfl, trivial⟩
  · rintro ⟨i, hi⟩
    by_cases hlt : i < 128
    · have h1 : (i : Int) < 128 := by omega
      have h2 : i / 8 < 16 := by omega
      have h3 : ((i / 8 : Nat) : Int) < 16 := by omega
      have h4 : IntKind.i64.wrap (8 * ((i % 8 : Nat) : Int)) = ((8 * (i % 8) : Nat) : Int) := by rw [Z5 _ (by omega)]; omega
      have h5 : IntKind.i64.wrap ((i / 8 : Nat) : Int) = ((i / 8 : Nat) : Int) := ziu _ (by omega)
      have h6 : IntKind.i64.wrap ((i : Int) + 1) = ((i + 1 : Nat) : Int) := by rw [Z5 _ (by omega)]; omega
      simp only [zaj, Qn, Je, Nat.reduceBEq, Zy, Zw, reduceIte, Nat.reduceEqDiff, reduceCtorEq, ne_eq, if_true, if_false, exA, tabs, exB, exD, hr, Zl, Zp, Ze, Zi, Zn, AV.isAggV, AV.parts, AV.one, AV.solid, Zf, Zb, Zj, Zc, Zk, Zh, Zg, bndA, lenA, Zd, rowOf, Za, intsOf, Zo, Nat.reduceAdd, Nat.reduceSub, Nat.reduceMul, Nat.reduceLeDiff, Nat.reduceLT, Nat.reduceGT, Int.reduceToNat, Int.reduceLE, Int.reduceLT, Int.reduceEq, Int.reduceNe, Int.reduceAdd, Int.reduceSub, Int.reduceMul, Int.reduceNeg, ite_true, ite_false, dite_true, hlt, h1, h2, h3, h4, h5, h6, na, Int.toNat_natCast, zz5, zz3]
      refine ⟨⟨i + 1, by omega⟩, by simp only; omega, Yd ?_⟩
      exact ⟨rfl, rfl, rfl, rfl, rfl, rfl, rfl, rfl, trivial⟩
    · have h1 : ¬ (i : Int) < 128 := by omega
      have hi : i = 128 := by omega
      subst hi
      have hD : Yz.take 8 = Yz := rfl
      simp only [zaj, Qn, Je, z7b, Yh, Nat.reduceBEq, Zy, Zw, reduceIte, Nat.reduceEqDiff, reduceCtorEq, ne_eq, if_true, if_false, exA, tabs, exB, exD, hr, Zl, Zp, Ze, Zi, Zn, AV.isAggV, AV.parts, AV.one, AV.solid, Zf, Zb, Zj, Zc, Zk, Zh, Zg, bndA, lenA, Zd, rowOf, Za, intsOf, Zo, Nat.reduceAdd, Nat.reduceSub, Nat.reduceMul, Nat.reduceLeDiff, Nat.reduceLT, Nat.reduceGT, Int.reduceToNat, Int.reduceLE, Int.reduceLT, Int.reduceEq, Int.reduceNe, Int.reduceAdd, Int.reduceSub, Int.reduceMul, Int.reduceNeg, ite_true, ite_false, dite_true, h1, na, Int.toNat_natCast, hD]
      refine Qp (zcn 0) (α := {i : Nat // i ≤ 8}) (fun i => ⟨envL [(2, .v (.int .u64 t)), (3, .v (.bool true)), (4, .ptr 0 0 0), (8, .ptr 2 0 0), (9, .ptr 3 0 0), (10, .ptr 4 0 0), (12, .ptr 5 0 0), (13, .v (.int .i64 i.val))],
        [some [.arr 8 .u64 h], some [.arr 128 .u8 p], some [.arr 8 .u64 (List.replicate 8 0)], some [.arr 16 .u64 (wordsAt p 128)], some [.arr 16 .u64 (z0r h i.val)], some [.arr 8 .u64 Yz]]⟩) (fun i => 8 - i.val) ⟨0, by omega⟩ (by kernel_rfl) ?_ ?_
      · exact Yd ⟨rfl, rfl, rfl, rfl, rfl, rfl, rfl, rfl, trivial⟩
      rintro ⟨i, hi⟩
      by_cases hit : i < 8
      · have i1 : (i : Int) < 8 := by omega
        have i2 : IntKind.i64.wrap (8 + (i : Int)) = ((8 + i : Nat) : Int) := by rw [Z5 _ (by omega)]; omega
        have i3 : ((8 + i : Nat) : Int) < 16 := by omega
        have i4 : 8 + i < 16 := by omega
        have i5 : (i : Int) < 16 := by omega
        have i6 : i < 16 := by omega
        have i7 : IntKind.i64.wrap ((i : Int) + 1) = ((i + 1 : Nat) : Int) := by rw [Z5 _ (by omega)]; omega
        simp only [zaj, Qn, Je, Nat.reduceBEq, Zy, Zw, reduceIte, Nat.reduceEqDiff, reduceCtorEq, ne_eq, if_true, if_false, exA, tabs, exB, exD, hr, Zl, Zp, Ze, Zi, Zn, AV.isAggV, AV.parts, AV.one, AV.solid, Zf, Zb, Zj, Zc, Zk, Zh, Zg, bndA, lenA, Zd, rowOf, Za, intsOf, Zo, Nat.reduceAdd, Nat.reduceSub, Nat.reduceMul, Nat.reduceLeDiff, Nat.reduceLT, Nat.reduceGT, Int.reduceToNat, Int.reduceLE, Int.reduceLT, Int.reduceEq, Int.reduceNe, Int.reduceAdd, Int.reduceSub, Int.reduceMul, Int.reduceNeg, ite_true, ite_false, dite_true, i1]
        refine ztx (zcn 0) (.first 0 (.first 1 (.first 2 (.first 3 (.first 4 (.first 5 (.first 6 (.first 7 (.first 9 (.fork 8 (.fork 10 (.first 11 (.fork 12 .done .stop)) .stop) (.fork 10 (.first 8 (.first 11 (.fork 12 .done .stop))) .stop))))))))))) (by kernel_rfl) ?_
        simp only [zaj, Qn, Je, Nat.reduceBEq, Zy, Zw, reduceIte, Nat.reduceEqDiff, reduceCtorEq, ne_eq, if_true, if_false, exA, tabs, exB, exD, hr, Zl, Zp, Ze, Zi, Zn, AV.isAggV, AV.parts, AV.one, AV.solid, Zf, Zb, Zj, Zc, Zk, Zh, Zg, bndA, lenA, Zd, rowOf, Za, intsOf, Zo, Nat.reduceAdd, Nat.reduceSub, Nat.reduceMul, Nat.reduceLeDiff, Nat.reduceLT, Nat.reduceGT, Int.reduceToNat, Int.reduceLE, Int.reduceLT, Int.reduceEq, Int.reduceNe, Int.reduceAdd, Int.reduceSub, Int.reduceMul, Int.reduceNeg, ite_true, ite_false, dite_true, na, Int.toNat_natCast, hit, i1, i2, i3, i4, i5, i6, i7]
        refine ⟨⟨i + 1, by omega⟩, by simp only; omega, Yd ?_⟩
        exact ⟨rfl, rfl, rfl, rfl, rfl, rfl, rfl, rfl, trivial⟩
      have i1 : ¬ (i : Int) < 8 := by omega
      have hi8 : i = 8 := by omega
      subst hi8
      have hG : IntKind.u64.signed = false := rfl
      have hL := zwj h hh
      simp only [zaj, Qn, Je, Nat.reduceBEq, Zy, Zw, reduceIte, Nat.reduceEqDiff, reduceCtorEq, ne_eq, if_true, if_false, exA, tabs, exB, exD, hr, Zl, Zp, Ze, Zi, Zn, AV.isAggV, AV.parts, AV.one, AV.solid, Zf, Zb, Zj, Zc, Zk, Zh, Zg, bndA, lenA, Zd, rowOf, Za, intsOf, Zo, Nat.reduceAdd, Nat.reduceSub, Nat.reduceMul, Nat.reduceLeDiff, Nat.reduceLT, Nat.reduceGT, Int.reduceToNat, Int.reduceLE, Int.reduceLT, Int.reduceEq, Int.reduceNe, Int.reduceAdd, Int.reduceSub, Int.reduceMul, Int.reduceNeg, ite_true, ite_false, dite_true, i1, na, Int.toNat_natCast, hG, hL]
      refine Qp (zcn 0) (α := {i : Nat // i ≤ 12}) (fun i => ⟨envL [(4, .ptr 0 0 0), (8, .ptr 2 0 0), (9, .ptr 3 0 0), (10, .ptr 4 0 0), (14, .v (.int .i64 i.val))],
        [some [.arr 8 .u64 h], some [.arr 128 .u8 p], some [.arr 8 .u64 (List.replicate 8 0)], some [.arr 16 .u64 (wordsAt p 128)], some [.arr 16 .u64 (Qc (wordsAt p 128) (Y6 h t true) i.val)], some [.arr 8 .u64 Yz]]⟩) (fun i => 12 - i.val) ⟨0, by omega⟩ (by kernel_rfl) ?_ ?_
      · exact Yd ⟨rfl, rfl, rfl, rfl, rfl, trivial⟩
      · rintro ⟨r, hi⟩
        by_cases hlt : r < 12
        · have h1 : (r : Int) < 12 := by omega
          have h7 : IntKind.i64.wrap ((r : Int) + 1) = ((r + 1 : Nat) : Int) := by rw [Z5 _ (by omega)]; omega
          simp only [zaj, Qn, Je, Nat.reduceBEq, Zy, Zw, reduceIte, Nat.reduceEqDiff, reduceCtorEq, ne_eq, if_true, if_false, exA, tabs, exB, exD, hr, Zl, Zp, Ze, Zi, Zn, AV.isAggV, AV.parts, AV.one, AV.solid, Zf, Zb, Zj, Zc, Zk, Zh, Zg, bndA, lenA, Zd, rowOf, Za, intsOf, Zo, Nat.reduceAdd, Nat.reduceSub, Nat.reduceMul, Nat.reduceLeDiff, Nat.reduceLT, Nat.reduceGT, Int.reduceToNat, Int.reduceLE, Int.reduceLT, Int.reduceEq, Int.reduceNe, Int.reduceAdd, Int.reduceSub, Int.reduceMul, Int.reduceNeg, ite_true, ite_false, dite_true, h1, na, Int.toNat_natCast, ztg]
          refine Qp (zcn 0) (α := {i : Nat // i ≤ 8}) (fun i => ⟨envL [(4, .ptr 0 0 0), (8, .ptr 2 0 0), (9, .ptr 3 0 0), (10, .ptr 4 0 0), (14, .v (.int .i64 r)), (15, .v (.int .i64 ((r % 10 : Nat) : Int))), (16, .v (.int .i64 i.val))],
            [some [.arr 8 .u64 h], some [.arr 128 .u8 p], some [.arr 8 .u64 (List.replicate 8 0)], some [.arr 16 .u64 (wordsAt p 128)], some [.arr 16 .u64 (Y8 (wordsAt p 128) (Qc (wordsAt p 128) (Y6 h t true) r) r i.val)], some [.arr 8 .u64 Yz]]⟩) (fun i => 8 - i.val) ⟨0, by omega⟩ (by kernel_rfl) ?_ ?_
          · exact Yd ⟨rfl, rfl, rfl, rfl, rfl, rfl, rfl, trivial⟩
          · rintro ⟨k, hk⟩
            by_cases hkt : k < 8
            · have k1 : (k : Int) < 8 := by omega
              have k2 : IntKind.i64.wrap (2 * (k : Int)) = ((2 * k : Nat) : Int) := by rw [Z5 _ (by omega)]; omega
              have k3 : IntKind.i64.wrap (((2 * k : Nat) : Int) + 1) = ((2 * k + 1 : Nat) : Int) := by rw [Z5 _ (by omega)]; omega
              have k4 : ((2 * k : Nat) : Int) < 16 := by omega
              have k5 : ((2 * k + 1 : Nat) : Int) < 16 := by omega
              have k6 : ((r % 10 : Nat) : Int) < 10 := by omega
              have k8 : ∀ j, (((Jh.getD j 0 : Nat) : Int) < 16) = True := fun j => eq_true (by have := zdh j; omega)
              have k9 : ∀ j, ((Jh.getD j 0) < 16) = True := fun j => eq_true (zdh j)
              have e9 : IntKind.i64.wrap ((k : Int) + 1) = ((k + 1 : Nat) : Int) := by rw [Z5 _ (by omega)]; omega
              have hvl : (Y8 (wordsAt p 128) (Qc (wordsAt p 128) (Y6 h t true) r) r k).length = 16 := by rw [zcg, zgw, zkg h t true hh]
              have hvt : (Y8 (wordsAt p 128) (Qc (wordsAt p 128) (Y6 h t true) r) r k).take 16 = Y8 (wordsAt p 128) (Qc (wordsAt p 128) (Y6 h t true) r) r k := List.take_of_length_le (by omega)
              by_cases hk4 : k < 4
              · have m0 : (k : Int) < 4 := by omega
                have m1 : IntKind.i64.wrap ((k : Int) + 4) = ((k + 4 : Nat) : Int) := by rw [Z5 _ (by omega)]; omega
                have m2 : IntKind.i64.wrap ((k : Int) + 8) = ((k + 8 : Nat) : Int) := by rw [Z5 _ (by omega)]; omega
                have m3 : IntKind.i64.wrap ((k : Int) + 12) = ((k + 12 : Nat) : Int) := by rw [Z5 _ (by omega)]; omega
                have m4 : (k : Int) < 16 := by omega
                have m5 : ((k + 4 : Nat) : Int) < 16 := by omega
                have m6 : ((k + 8 : Nat) : Int) < 16 := by omega
                have m7 : ((k + 12 : Nat) : Int) < 16 := by omega
                simp only [zaj, Qn, Je, zt9, zt8, Yg, Yf, Nat.reduceBEq, Zy, Zw, reduceIte, Nat.reduceEqDiff, reduceCtorEq, ne_eq, if_true, if_false, exA, tabs, exB, exD, hr, Zl, Zp, Ze, Zi, Zn, AV.isAggV, AV.parts, AV.one, AV.solid, Zf, Zb, Zj, Zc, Zk, Zh, Zg, bndA, lenA, Zd, rowOf, Za, intsOf, Zo, Nat.reduceAdd, Nat.reduceSub, Nat.reduceMul, Nat.reduceLeDiff, Nat.reduceLT, Nat.reduceGT, Int.reduceToNat, Int.reduceLE, Int.reduceLT, Int.reduceEq, Int.reduceNe, Int.reduceAdd, Int.reduceSub, Int.reduceMul, Int.reduceNeg, ite_true, ite_false, dite_true, k1, k2, k3, k4, k5, k6, k8, k9, m0, m1, m2, m3, m4, m5, m6, m7, e9, hvl, hvt, na, Int.toNat_natCast]
                refine ⟨⟨k + 1, by omega⟩, by simp only; omega, ?_⟩
                have hk0 : k / 4 = 0 := by omega
                have hs : mixL (Y8 (wordsAt p 128) (Qc (wordsAt p 128) (Y6 h t true) r) r k) k (k + 4) (k + 8) (k + 12) ((wordsAt p 128).getD (Jh.getD (16 * (r % 10) + 2 * k) 0) 0) ((wordsAt p 128).getD (Jh.getD (16 * (r % 10) + (2 * k + 1)) 0) 0)
                    = Y8 (wordsAt p 128) (Qc (wordsAt p 128) (Y6 h t true) r) r (k + 1) := by
                  simp only [Y8, zl7, hk0, Nat.mul_zero, Nat.add_zero]
                  rw [show k % 4 = k from by omega, show 4 + k = k + 4 from by omega, show 8 + k = k + 8 from by omega, show 12 + k = k + 12 from by omega]
                rw [hs]
                exact Yd ⟨rfl, rfl, rfl, rfl, rfl, rfl, rfl, trivial⟩
              · have m0 : ¬ (k : Int) < 4 := by omega
                have m1 : IntKind.i64.wrap ((k : Int) - 4) = ((k - 4 : Nat) : Int) := by rw [Z5 _ (by omega)]; omega
                have m2 : IntKind.i64.wrap ((k : Int) + 2) = ((k + 2 : Nat) : Int) := by rw [Z5 _ (by omega)]; omega
                have m3 : IntKind.i64.wrap ((k : Int) + 3) = ((k + 3 : Nat) : Int) := by rw [Z5 _ (by omega)]; omega
                have m4 : ((k - 4 : Nat) : Int) < 16 := by omega
                have n1 : IntKind.i64.wrap (4 + (((k + 1) % 4 : Nat) : Int)) = ((4 + (k + 1) % 4 : Nat) : Int) := by rw [Z5 _ (by omega)]; omega
                have n2 : IntKind.i64.wrap (8 + (((k + 2) % 4 : Nat) : Int)) = ((8 + (k + 2) % 4 : Nat) : Int) := by rw [Z5 _ (by omega)]; omega
                have n3 : IntKind.i64.wrap (12 + (((k + 3) % 4 : Nat) : Int)) = ((12 + (k + 3) % 4 : Nat) : Int) := by rw [Z5 _ (by omega)]; omega
                have m5 : ((4 + (k + 1) % 4 : Nat) : Int) < 16 := by omega
                have m6 : ((8 + (k + 2) % 4 : Nat) : Int) < 16 := by omega
                have m7 : ((12 + (k + 3) % 4 : Nat) : Int) < 16 := by omega
                simp only [zaj, Qn, Je, zt9, zt8, Yg, Yf, Nat.reduceBEq, Zy, Zw, reduceIte, Nat.reduceEqDiff, reduceCtorEq, ne_eq, if_true, if_false, exA, tabs, exB, exD, hr, Zl, Zp, Ze, Zi, Zn, AV.isAggV, AV.parts, AV.one, AV.solid, Zf, Zb, Zj, Zc, Zk, Zh, Zg, bndA, lenA, Zd, rowOf, Za, intsOf, Zo, Nat.reduceAdd, Nat.reduceSub, Nat.reduceMul, Nat.reduceLeDiff, Nat.reduceLT, Nat.reduceGT, Int.reduceToNat, Int.reduceLE, Int.reduceLT, Int.reduceEq, Int.reduceNe, Int.reduceAdd, Int.reduceSub, Int.reduceMul, Int.reduceNeg, ite_true, ite_false, dite_true, k1, k2, k3, k4, k5, k6, k8, k9, m0, m1, m2, m3, m4, m5, m6, m7, n1, n2, n3, e9, hvl, hvt, na, Int.toNat_natCast, zz4]
                refine ⟨⟨k + 1, by omega⟩, by simp only; omega, ?_⟩
                have hk0 : k / 4 = 1 := by omega
                have hs : mixL (Y8 (wordsAt p 128) (Qc (wordsAt p 128) (Y6 h t true) r) r k) (k - 4) (4 + (k + 1) % 4) (8 + (k + 2) % 4) (12 + (k + 3) % 4) ((wordsAt p 128).getD (Jh.getD (16 * (r % 10) + 2 * k) 0) 0) ((wordsAt p 128).getD (Jh.getD (16 * (r % 10) + (2 * k + 1)) 0) 0)
                    = Y8 (wordsAt p 128) (Qc (wordsAt p 128) (Y6 h t true) r) r (k + 1) := by
                  simp only [Y8, zl7, hk0, Nat.mul_one]
                  rw [show k % 4 = k - 4 from by omega]
                rw [hs]
                exact Yd ⟨rfl, rfl, rfl, rfl, rfl, rfl, rfl, trivial⟩
            · have k1 : ¬ (k : Int) < 8 := by omega
              have hk8 : k = 8 := by omega
              subst hk8
              simp only [zaj, Qn, Je, Nat.reduceBEq, Zy, Zw, reduceIte, Nat.reduceEqDiff, reduceCtorEq, ne_eq, if_true, if_false, exA, tabs, exB, exD, hr, Zl, Zp, Ze, Zi, Zn, AV.isAggV, AV.parts, AV.one, AV.solid, Zf, Zb, Zj, Zc, Zk, Zh, Zg, bndA, lenA, Zd, rowOf, Za, intsOf, Zo, Nat.reduceAdd, Nat.reduceSub, Nat.reduceMul, Nat.reduceLeDiff, Nat.reduceLT, Nat.reduceGT, Int.reduceToNat, Int.reduceLE, Int.reduceLT, Int.reduceEq, Int.reduceNe, Int.reduceAdd, Int.reduceSub, Int.reduceMul, Int.reduceNeg, ite_true, ite_false, dite_true, k1, h7]
              refine ⟨⟨r + 1, by omega⟩, by simp only; omega, Yd ?_⟩
              exact ⟨rfl, rfl, rfl, rfl, rfl, trivial⟩
        · have h1 : ¬ (r : Int) < 12 := by omega
          have hi : r = 12 := by omega
          subst hi
          simp only [zaj, Qn, Je, Nat.reduceBEq, Zy, Zw, reduceIte, Nat.reduceEqDiff, reduceCtorEq, ne_eq, if_true, if_false, exA, tabs, exB, exD, hr, Zl, Zp, Ze, Zi, Zn, AV.isAggV, AV.parts, AV.one, AV.solid, Zf, Zb, Zj, Zc, Zk, Zh, Zg, bndA, lenA, Zd, rowOf, Za, intsOf, Zo, Nat.reduceAdd, Nat.reduceSub, Nat.reduceMul, Nat.reduceLeDiff, Nat.reduceLT, Nat.reduceGT, Int.reduceToNat, Int.reduceLE, Int.reduceLT, Int.reduceEq, Int.reduceNe, Int.reduceAdd, Int.reduceSub, Int.reduceMul, Int.reduceNeg, ite_true, ite_false, dite_true, h1, na, Int.toNat_natCast]
          refine Qp (zcn 0) (α := {i : Nat // i ≤ 8}) (fun i => ⟨envL [(4, .ptr 0 0 0), (8, .ptr 2 0 0), (10, .ptr 4 0 0), (19, .v (.int .i64 i.val))],
            [some [.arr 8 .u64 (za7 h (Qc (wordsAt p 128) (Y6 h t true) 12) i.val)], some [.arr 128 .u8 p], some [.arr 8 .u64 (List.replicate 8 0)], some [.arr 16 .u64 (wordsAt p 128)], some [.arr 16 .u64 (Qc (wordsAt p 128) (Y6 h t true) 12)], some [.arr 8 .u64 Yz]]⟩) (fun i => 8 - i.val) ⟨0, by omega⟩ (by kernel_rfl) ?_ ?_
          · exact Yd ⟨rfl, rfl, rfl, rfl, trivial⟩
          · rintro ⟨i, hi⟩
            by_cases hit : i < 8
            · have i1 : (i : Int) < 8 := by omega
              have i2 : IntKind.i64.wrap (8 + (i : Int)) = ((8 + i : Nat) : Int) := by rw [Z5 _ (by omega)]; omega
              have i3 : ((8 + i : Nat) : Int) < 16 := by omega
              have i4 : 8 + i < 16 := by omega
              have i5 : (i : Int) < 16 := by omega
              have i6 : i < 16 := by omega
              have i7 : IntKind.i64.wrap ((i : Int) + 1) = ((i + 1 : Nat) : Int) := by rw [Z5 _ (by omega)]; omega
              simp only [zaj, Qn, Je, Nat.reduceBEq, Zy, Zw, reduceIte, Nat.reduceEqDiff, reduceCtorEq, ne_eq, if_true, if_false, exA, tabs, exB, exD, hr, Zl, Zp, Ze, Zi, Zn, AV.isAggV, AV.parts, AV.one, AV.solid, Zf, Zb, Zj, Zc, Zk, Zh, Zg, bndA, lenA, Zd, rowOf, Za, intsOf, Zo, Nat.reduceAdd, Nat.reduceSub, Nat.reduceMul, Nat.reduceLeDiff, Nat.reduceLT, Nat.reduceGT, Int.reduceToNat, Int.reduceLE, Int.reduceLT, Int.reduceEq, Int.reduceNe, Int.reduceAdd, Int.reduceSub, Int.reduceMul, Int.reduceNeg, ite_true, ite_false, dite_true, na, Int.toNat_natCast, hit, i1, i2, i3, i4, i5, i6, i7, zee]
              refine ⟨⟨i + 1, by omega⟩, by simp only; omega, Yd ?_⟩
              exact ⟨rfl, rfl, rfl, rfl, trivial⟩
            · have i1 : ¬ (i : Int) < 8 := by omega
              have hi8 : i = 8 := by omega
              subst hi8
              have hlen : (za7 h (Qc (wordsAt p 128) (Y6 h t true) 12) 8).length = 8 := by rw [zbj, hh]
              have hT : (za7 h (Qc (wordsAt p 128) (Y6 h t true) 12) 8).take 8 = za7 h (Qc (wordsAt p 128) (Y6 h t true) 12) 8 := List.take_of_length_le (by omega)
              simp only [zaj, Qn, Je, Nat.reduceBEq, Zy, Zw, reduceIte, Nat.reduceEqDiff, reduceCtorEq, ne_eq, if_true, if_false, exA, tabs, exB, exD, hr, Zl, Zp, Ze, Zi, Zn, AV.isAggV, AV.parts, AV.one, AV.solid, Zf, Zb, Zj, Zc, Zk, Zh, Zg, bndA, lenA, Zd, rowOf, Za, intsOf, Zo, Nat.reduceAdd, Nat.reduceSub, Nat.reduceMul, Nat.reduceLeDiff, Nat.reduceLT, Nat.reduceGT, Int.reduceToNat, Int.reduceLE, Int.reduceLT, Int.reduceEq, Int.reduceNe, Int.reduceAdd, Int.reduceSub, Int.reduceMul, Int.reduceNeg, ite_true, ite_false, dite_true, i1, hT, Q8]
end Go.Proofs.Ytfnfmbikooeiaaa
namespace Go.Proofs.Ytfnfmbikooeiaaa
open Go.Ax
def F23 : List AV → Option AV
  | [.arr 8 .u64 h, .arr 128 .u8 p, .v (.int .u64 t), .v (.bool last)] => Zu (h.length = 8 ∧ p.length = 128) (some (.arr 8 .u64 (Q8 h p t last)))
  | _ => none
theorem Ym (h p : List Int) (t : Int) (last : Bool) : F23 [.arr 8 .u64 h, .arr 128 .u8 p, .v (.int .u64 t), .v (.bool last)] = Zu (h.length = 8 ∧ p.length = 128) (some (.arr 8 .u64 (Q8 h p t last))) := rfl
noncomputable def p4 : FuncId → Option (List AV → Option AV) := Qb (Qb p3 23 F23) 24 F23
noncomputable def c4 (k : Nat) : Cfg := ⟨Try.prog, k, p4, [], fun _ => none, none, []⟩
theorem zmj (k : Nat) : (c4 k).odd = [] := rfl
theorem zs8 (k : Nat) : (c4 k).ro = [] := rfl
theorem c4_P (k : Nat) : (c4 k).P = Try.prog := rfl
theorem ziz (k : Nat) : (c4 k).pure = p4 := rfl
theorem zi0 (k : Nat) : (c4 k).news = fun _ => none := rfl
theorem ylt (k : Nat) : (c4 k).pure 23 = some F23 := rfl
theorem z0x (k : Nat) : (c4 k).Good := by
  refine Cfg.Good.add (Cfg.Good.add (ybd k) ?_ k) ?_ k
  all_goals
    intro args v hF h κ hκ
    unfold F23 at hF
    split at hF
    · rename_i h0 p t last
      obtain ⟨⟨h1, h2⟩, h5⟩ := Zt hF
      cases h5
      cases last
      · first | exact Yn (zvo h0 p t h1 h2) (fun g => rfl) (fun g => rfl) h κ hκ | exact Yn (ztm h0 p t h1 h2) (fun g => rfl) (fun g => rfl) h κ hκ
      · first | exact Yn (zye h0 p t h1 h2) (fun g => rfl) (fun g => rfl) h κ hκ | exact Yn (zvb h0 p t h1 h2) (fun g => rfl) (fun g => rfl) h κ hκ
    · cases hF
end Go.Proofs.Ytfnfmbikooeiaaa
namespace Go.Proofs.Ytfnfmbikooeiaaa
open Go.Ax
theorem zsu (h r : List Int) (size c : Nat) (t : Int) (hh : h.length = 8) (hs : 0 < size ∧ size ≤ 64) (hrl : r.length ≤ 128) :
    Zs Try.prog 30 [.ptr 0 0 0] [some [.arr 8 .u64 h, .v (.int .i64 size), .sl 1 0 1 0 r.length c, .v (.int .u64 t)], some [.arr r.length .u8 r]]
      fun v h' => v = .sl 2 0 1 0 size size ∧ h' = [some [.arr 8 .u64 h, .v (.int .i64 size), .sl 1 0 1 0 r.length c, .v (.int .u64 t)], some [.arr r.length .u8 r],
        some [.arr size .u8 ((List.range size).map (byteAt (Q8 h (padL r) (IntKind.u64.wrap (t + r.length)) true)))]] := by
  refine Zs.weak (C := c4 2) rfl (κ := fun v h' => v = .sl 4 0 1 0 size size ∧ ∃ x y, h' = [some [.arr 8 .u64 h, .v (.int .i64 size), .sl 1 0 1 0 r.length c, .v (.int .u64 t)], some [.arr r.length .u8 r], x, y,
        some [.arr size .u8 ((List.range size).map (byteAt (Q8 h (padL r) (IntKind.u64.wrap (t + r.length)) true)))]]) ?_ ?_
  · refine Zq (z0x 2) Try.func30 rfl ⟨by kernel_rfl, by show 1 ≤ _; decide, by kernel_rfl, by kernel_rfl⟩ rfl ?_; have hr : Try.f30.results.toList = [.tmp 2] := rfl
    have hp : (padL r).length = 128 := by simp [padL, hrl]
    have hpad : r ++ List.drop (min r.length 128) (List.replicate 128 (0 : Int)) = padL r := by rw [Nat.min_eq_left hrl, List.drop_replicate]; rfl
    repeat (first | simp only [c4_P, zmj, zs8, Nat.reduceBEq, reduceIte, Nat.reduceEqDiff, reduceCtorEq, ne_eq, if_true, if_false, exA, exA, tabs, exB, exD, Zl, Zp, Ze, Zi, Zn, AV.isAggV, AV.parts, AV.one, AV.solid, Zf, Zb, Zj, Zc, Zk, Zh, Zg, bndA, lenA, Zd, rowOf, Za, intsOf, Zo, Nat.reduceAdd, Nat.reduceSub, Nat.reduceMul, Nat.reduceLeDiff, Nat.reduceLT, Nat.reduceGT, Int.reduceToNat, Int.reduceLE, Int.reduceLT, Int.reduceEq, Int.reduceNe, Int.reduceAdd, Int.reduceSub, Int.reduceMul, Int.reduceNeg, ite_true, ite_false, dite_true, ziz, zi0, p4, p3, p2, p1, Yk, Yl, Yj, Yg, Yh, Yf, Ym, hr, ylt, hh, hpad] | simp (maxSteps := 1000000) (disch := omega) only [exE, Int.toNat_natCast, Int.reduceToNat, hh])
    repeat (with_reducible refine And.intro (by first | omega | assumption) ?_)
    refine Z3 (z0x 2) (fun i => ⟨envL [(4, .ptr 3 0 0), (5, .sl 4 0 1 0 size size), (45, .v (.int .i64 size)), (46, .v (.int .i64 i))],
      [some [.arr 8 .u64 h, .v (.int .i64 size), .sl 1 0 1 0 r.length c, .v (.int .u64 t)], some [.arr r.length .u8 r], some [.arr 128 .u8 (padL r)], some [.arr 8 .u64 (Q8 h (padL r) (IntKind.u64.wrap (t + r.length)) true)],
       some [.arr size .u8 (Q9 (byteAt (Q8 h (padL r) (IntKind.u64.wrap (t + r.length)) true)) (List.replicate size 0) i)]]⟩) size (by kernel_rfl) ?_ ?_ ?_
    · (refine Z1 ?_ ?_; (focus (first | with_reducible rfl | (simp only [Q9] <;> with_reducible rfl))); simp only [exF, Nat.reduceEqDiff, if_true, if_false, reduceIte, Option.some.injEq, reduceCtorEq, Int.cast_ofNat_Int, Q9])
    · intro i hi
      repeat (first | simp only [c4_P, zmj, zs8, Nat.reduceBEq, reduceIte, Nat.reduceEqDiff, reduceCtorEq, ne_eq, if_true, if_false, exA, exA, tabs, exB, exD, Zl, Zp, Ze, Zi, Zn, AV.isAggV, AV.parts, AV.one, AV.solid, Zf, Zb, Zj, Zc, Zk, Zh, Zg, bndA, lenA, Zd, rowOf, Za, intsOf, Zo, Nat.reduceAdd, Nat.reduceSub, Nat.reduceMul, Nat.reduceLeDiff, Nat.reduceLT, Nat.reduceGT, Int.reduceToNat, Int.reduceLE, Int.reduceLT, Int.reduceEq, Int.reduceNe, Int.reduceAdd, Int.reduceSub, Int.reduceMul, Int.reduceNeg, ite_true, ite_false, dite_true, ziz, zi0, p4, p3, p2, p1, Yk, Yl, Yj, Yg, Yh, Yf, Ym, hr] | simp (maxSteps := 1000000) (disch := omega) only [exE, Int.toNat_natCast, Int.reduceToNat])
      repeat (with_reducible refine And.intro (by first | omega | assumption) ?_)
      (refine Z1 ?_ ?_; (focus (first | with_reducible rfl | (simp only [Q9, byteAt] <;> with_reducible rfl))); simp only [exF, Nat.reduceEqDiff, if_true, if_false, reduceIte, Option.some.injEq, reduceCtorEq, Int.cast_ofNat_Int, Q9, byteAt])
    · repeat (first | simp only [c4_P, zmj, zs8, Nat.reduceBEq, reduceIte, Nat.reduceEqDiff, reduceCtorEq, ne_eq, if_true, if_false, exA, exA, tabs, exB, exD, Zl, Zp, Ze, Zi, Zn, AV.isAggV, AV.parts, AV.one, AV.solid, Zf, Zb, Zj, Zc, Zk, Zh, Zg, bndA, lenA, Zd, rowOf, Za, intsOf, Zo, Nat.reduceAdd, Nat.reduceSub, Nat.reduceMul, Nat.reduceLeDiff, Nat.reduceLT, Nat.reduceGT, Int.reduceToNat, Int.reduceLE, Int.reduceLT, Int.reduceEq, Int.reduceNe, Int.reduceAdd, Int.reduceSub, Int.reduceMul, Int.reduceNeg, ite_true, ite_false, dite_true, ziz, zi0, p4, p3, p2, p1, Yk, Yl, Yj, Yg, Yh, Yf, Ym, hr] | simp (maxSteps := 1000000) (disch := omega) only [exE, Int.toNat_natCast, Int.reduceToNat])
      rw [zy4 _ _ _ (by simp)]
      exact ⟨_, _, rfl⟩
  · rintro v h' ⟨rfl, x, y, rfl⟩
    exact ⟨_, _, Z2 [0, 1, 4] (by decide) (by simp) (by rfl) rfl ⟨rfl, trivial⟩, rfl, rfl⟩
end Go.Proofs.Ytfnfmbikooeiaaa
namespace Go.Proofs.Ytfnfmbikooeiaaa
open Go.Ax
theorem zzc (l : List Int) (hl : l.length ≤ 140737488355328) :
    Zs Try.prog 57 [.roI .u8 l] [] fun v h' => ∃ c, v = .sl 0 0 1 0 l.length c ∧ h' = [some [.arr l.length .u8 l]] := by
  refine Zs.weak (C := c4 0) rfl (κ := fun v h' => (v = .v (.slice none 0 0) ∧ h' = [] ∧ l = []) ∨ ∃ c, v = .sl 1 0 1 0 l.length c ∧ h' = [none, some [.arr l.length .u8 l]]) ?_ ?_
  · refine Zq (z0x 0) Try.func57 rfl ⟨by kernel_rfl, by show 1 ≤ _; decide, by kernel_rfl, by kernel_rfl⟩ rfl ?_; have hr : Try.f57.results.toList = [.tmp 2] := rfl
    repeat (first | simp only [c4_P, zmj, zs8, Nat.reduceBEq, reduceIte, Nat.reduceEqDiff, reduceCtorEq, ne_eq, if_true, if_false, exA, exA, tabs, exB, exD, Zl, Zp, Ze, Zi, Zn, AV.isAggV, AV.parts, AV.one, AV.solid, Zf, Zb, Zj, Zc, Zk, Zh, Zg, bndA, lenA, Zd, rowOf, Za, intsOf, Zo, Nat.reduceAdd, Nat.reduceSub, Nat.reduceMul, Nat.reduceLeDiff, Nat.reduceLT, Nat.reduceGT, Int.reduceToNat, Int.reduceLE, Int.reduceLT, Int.reduceEq, Int.reduceNe, Int.reduceAdd, Int.reduceSub, Int.reduceMul, Int.reduceNeg, ite_true, ite_false, dite_true, ziz, zi0, p4, p3, p2, p1, Yk, Yl, Yj, Yg, Yh, Yf, Ym, hr] | simp (maxSteps := 1000000) (disch := omega) only [exE, Int.toNat_natCast, Int.reduceToNat])
    intro t ht
    cases t
    · repeat (first | simp only [c4_P, zmj, zs8, Nat.reduceBEq, reduceIte, Nat.reduceEqDiff, reduceCtorEq, ne_eq, if_true, if_false, exA, exA, tabs, exB, exD, Zl, Zp, Ze, Zi, Zn, AV.isAggV, AV.parts, AV.one, AV.solid, Zf, Zb, Zj, Zc, Zk, Zh, Zg, bndA, lenA, Zd, rowOf, Za, intsOf, Zo, Nat.reduceAdd, Nat.reduceSub, Nat.reduceMul, Nat.reduceLeDiff, Nat.reduceLT, Nat.reduceGT, Int.reduceToNat, Int.reduceLE, Int.reduceLT, Int.reduceEq, Int.reduceNe, Int.reduceAdd, Int.reduceSub, Int.reduceMul, Int.reduceNeg, ite_true, ite_false, dite_true, ziz, zi0, p4, p3, p2, p1, Yk, Yl, Yj, Yg, Yh, Yf, Ym, hr] | simp (maxSteps := 1000000) (disch := omega) only [exE, Int.toNat_natCast, Int.reduceToNat])
      exact fun c _ => .inr ⟨c, rfl⟩
    · have := ht rfl
      repeat (first | simp only [c4_P, zmj, zs8, Nat.reduceBEq, reduceIte, Nat.reduceEqDiff, reduceCtorEq, ne_eq, if_true, if_false, exA, exA, tabs, exB, exD, Zl, Zp, Ze, Zi, Zn, AV.isAggV, AV.parts, AV.one, AV.solid, Zf, Zb, Zj, Zc, Zk, Zh, Zg, bndA, lenA, Zd, rowOf, Za, intsOf, Zo, Nat.reduceAdd, Nat.reduceSub, Nat.reduceMul, Nat.reduceLeDiff, Nat.reduceLT, Nat.reduceGT, Int.reduceToNat, Int.reduceLE, Int.reduceLT, Int.reduceEq, Int.reduceNe, Int.reduceAdd, Int.reduceSub, Int.reduceMul, Int.reduceNeg, ite_true, ite_false, dite_true, ziz, zi0, p4, p3, p2, p1, Yk, Yl, Yj, Yg, Yh, Yf, Ym, hr] | simp (maxSteps := 1000000) (disch := omega) only [exE, Int.toNat_natCast, Int.reduceToNat])
      exact .inl (List.eq_nil_of_length_eq_zero this)
  · rintro v h' (⟨rfl, rfl, rfl⟩ | ⟨c, rfl, rfl⟩)
    · exact ⟨_, _, zbs 0 .u8 rfl (fun j => by cases j <;> rfl), 0, rfl, rfl⟩
    · exact ⟨_, _, Z2 [1] (by decide) (by simp) (by rfl) rfl ⟨rfl, trivial⟩, c, rfl, rfl⟩
def N57 (h : List Blk) : List AV → Option Out
  | [x] => (u8Of h x).bind fun l => Zu (l.length ≤ 140737488355328) (some (.cap 0 fun c => (.sl h.length 0 1 0 l.length c, h ++ [some [.arr l.length .u8 l]])))
  | _ => none
theorem Yp (h : List Blk) (x : AV) : N57 h [x] = (u8Of h x).bind fun l => Zu (l.length ≤ 140737488355328) (some (.cap 0 fun c => (.sl h.length 0 1 0 l.length c, h ++ [some [.arr l.length .u8 l]]))) := rfl
noncomputable def n5 : FuncId → Option (List Blk → List AV → Option Out) := Qz (fun _ => none) 57 N57
noncomputable def c5 (k : Nat) : Cfg := ⟨Try.prog, k, p4, [], n5, none, []⟩
theorem zdt (k : Nat) : (c5 k).odd = [] := rfl
theorem zg4 (k : Nat) : (c5 k).ro = [] := rfl
theorem c5_P (k : Nat) : (c5 k).P = Try.prog := rfl
theorem zbz (k : Nat) : (c5 k).pure = p4 := rfl
theorem zb0 (k : Nat) : (c5 k).news = n5 := rfl
theorem znd (k : Nat) : (c5 k).Good := by
  refine Cfg.Good.addN (z0x k) ?_ k
  intro h args out hN
  unfold N57 at hN
  split at hN
  · rename_i x
    obtain ⟨l, hl, hN⟩ := Option.bind_eq_some_iff.1 hN
    obtain ⟨h1, hN⟩ := Zt hN
    cases hN
    refine ⟨fun c _ => ⟨_, rfl⟩, fun κ hκ => Ql (args := [x]) (zzc l h1) (by rintro _ _ ⟨c, rfl, rfl⟩; exact ⟨rfl, rfl⟩) (fun g => rfl) ⟨Qv hl, trivial⟩ ?_ hκ⟩
    rintro _ _ ⟨c, rfl, rfl⟩
    exact ⟨c, Nat.zero_le _, rfl⟩
  · cases hN
theorem z88 (n : Int) (key : List Int) (hk : key.length ≤ 140737488355328) (hb : n < 1 ∨ 64 < n ∨ 64 < key.length) :
    Zs Try.prog 27 [.v (.int .i64 n), .roI .u8 key] [] fun v h' => v = .tup [.v (.pointer none), .v (.int .i64 1)] ∧ h' = [] := by
  refine Zq (znd 0) Try.func27 rfl ⟨by kernel_rfl, by show 2 ≤ _; decide, by kernel_rfl, by kernel_rfl⟩ rfl ?_; have hr : Try.f27.results.toList = [.tmp 4, .tmp 5] := rfl
  repeat (first | simp only [c5_P, zdt, zg4, Nat.reduceBEq, reduceIte, Nat.reduceEqDiff, reduceCtorEq, ne_eq, if_true, if_false, exA, exA, tabs, exB, exD, Zl, Zp, Ze, Zi, Zn, AV.isAggV, AV.parts, AV.one, AV.solid, Zf, Zb, Zj, Zc, Zk, Zh, Zg, bndA, lenA, Zd, rowOf, Za, intsOf, Zo, Nat.reduceAdd, Nat.reduceSub, Nat.reduceMul, Nat.reduceLeDiff, Nat.reduceLT, Nat.reduceGT, Int.reduceToNat, Int.reduceLE, Int.reduceLT, Int.reduceEq, Int.reduceNe, Int.reduceAdd, Int.reduceSub, Int.reduceMul, Int.reduceNeg, ite_true, ite_false, dite_true, zbz, zb0, p4, p3, p2, p1, Yk, Yl, Yj, Yg, Yh, Yf, Ym, n5, Yp, hr] | simp (maxSteps := 1000000) (disch := omega) only [exE, Int.toNat_natCast, Int.reduceToNat])
  by_cases h1 : n < 1
  · repeat (first | simp only [c5_P, zdt, zg4, Nat.reduceBEq, reduceIte, Nat.reduceEqDiff, reduceCtorEq, ne_eq, if_true, if_false, exA, exA, tabs, exB, exD, Zl, Zp, Ze, Zi, Zn, AV.isAggV, AV.parts, AV.one, AV.solid, Zf, Zb, Zj, Zc, Zk, Zh, Zg, bndA, lenA, Zd, rowOf, Za, intsOf, Zo, Nat.reduceAdd, Nat.reduceSub, Nat.reduceMul, Nat.reduceLeDiff, Nat.reduceLT, Nat.reduceGT, Int.reduceToNat, Int.reduceLE, Int.reduceLT, Int.reduceEq, Int.reduceNe, Int.reduceAdd, Int.reduceSub, Int.reduceMul, Int.reduceNeg, ite_true, ite_false, dite_true, zbz, zb0, p4, p3, p2, p1, Yk, Yl, Yj, Yg, Yh, Yf, Ym, n5, Yp, hr] | simp (maxSteps := 1000000) (disch := omega) only [exE, Int.toNat_natCast, Int.reduceToNat])
  · by_cases h2 : 64 < n
    · repeat (first | simp only [c5_P, zdt, zg4, Nat.reduceBEq, reduceIte, Nat.reduceEqDiff, reduceCtorEq, ne_eq, if_true, if_false, exA, exA, tabs, exB, exD, Zl, Zp, Ze, Zi, Zn, AV.isAggV, AV.parts, AV.one, AV.solid, Zf, Zb, Zj, Zc, Zk, Zh, Zg, bndA, lenA, Zd, rowOf, Za, intsOf, Zo, Nat.reduceAdd, Nat.reduceSub, Nat.reduceMul, Nat.reduceLeDiff, Nat.reduceLT, Nat.reduceGT, Int.reduceToNat, Int.reduceLE, Int.reduceLT, Int.reduceEq, Int.reduceNe, Int.reduceAdd, Int.reduceSub, Int.reduceMul, Int.reduceNeg, ite_true, ite_false, dite_true, zbz, zb0, p4, p3, p2, p1, Yk, Yl, Yj, Yg, Yh, Yf, Ym, n5, Yp, hr] | simp (maxSteps := 1000000) (disch := omega) only [exE, Int.toNat_natCast, Int.reduceToNat])
    · repeat (first | simp only [c5_P, zdt, zg4, Nat.reduceBEq, reduceIte, Nat.reduceEqDiff, reduceCtorEq, ne_eq, if_true, if_false, exA, exA, tabs, exB, exD, Zl, Zp, Ze, Zi, Zn, AV.isAggV, AV.parts, AV.one, AV.solid, Zf, Zb, Zj, Zc, Zk, Zh, Zg, bndA, lenA, Zd, rowOf, Za, intsOf, Zo, Nat.reduceAdd, Nat.reduceSub, Nat.reduceMul, Nat.reduceLeDiff, Nat.reduceLT, Nat.reduceGT, Int.reduceToNat, Int.reduceLE, Int.reduceLT, Int.reduceEq, Int.reduceNe, Int.reduceAdd, Int.reduceSub, Int.reduceMul, Int.reduceNeg, ite_true, ite_false, dite_true, zbz, zb0, p4, p3, p2, p1, Yk, Yl, Yj, Yg, Yh, Yf, Ym, n5, Yp, hr] | simp (maxSteps := 1000000) (disch := omega) only [exE, Int.toNat_natCast, Int.reduceToNat])
theorem z87 (n : Nat) (key : List Int) (hk : 0 < key.length ∧ key.length ≤ 64) (hb : 1 ≤ n ∧ n ≤ 64) :
    Zs Try.prog 27 [.v (.int .i64 n), .roI .u8 key] [] fun v h' => v = .tup [.ptr 0 0 0, .v (.int .i64 0)] ∧ ∃ c,
      h' = [some [.arr 8 .u64 (Y4 n key), .v (.int .i64 n), .sl 1 0 1 0 128 c, .v (.int .u64 0)], some [.arr 128 .u8 (padL key)]] := by
  refine Zs.weak (C := c4 0) rfl (κ := fun v h' => v = .tup [.ptr 0 0 0, .v (.int .i64 0)] ∧ ∃ c,
      h' = [some [.arr 8 .u64 (Y4 n key), .v (.int .i64 n), .sl 2 0 1 0 128 c, .v (.int .u64 0)], none, some [.arr 128 .u8 (padL key)]]) ?_ ?_
  · refine Zq (znd 0) Try.func27 rfl ⟨by kernel_rfl, by show 2 ≤ _; decide, by kernel_rfl, by kernel_rfl⟩ rfl ?_; have hr : Try.f27.results.toList = [.tmp 4, .tmp 5] := rfl
    repeat (first | simp only [c5_P, zdt, zg4, Nat.reduceBEq, reduceIte, Nat.reduceEqDiff, reduceCtorEq, ne_eq, if_true, if_false, exA, exA, tabs, exB, exD, Zl, Zp, Ze, Zi, Zn, AV.isAggV, AV.parts, AV.one, AV.solid, Zf, Zb, Zj, Zc, Zk, Zh, Zg, bndA, lenA, Zd, rowOf, Za, intsOf, Zo, Nat.reduceAdd, Nat.reduceSub, Nat.reduceMul, Nat.reduceLeDiff, Nat.reduceLT, Nat.reduceGT, Int.reduceToNat, Int.reduceLE, Int.reduceLT, Int.reduceEq, Int.reduceNe, Int.reduceAdd, Int.reduceSub, Int.reduceMul, Int.reduceNeg, ite_true, ite_false, dite_true, zbz, zb0, p4, p3, p2, p1, Yk, Yl, Yj, Yg, Yh, Yf, Ym, n5, Yp, hr] | simp (maxSteps := 1000000) (disch := omega) only [exE, Int.toNat_natCast, Int.reduceToNat])
    repeat (with_reducible refine And.intro (by first | omega | assumption) ?_)
    intro c0 _ c _
    rw [show key.length + (128 - key.length) = 128 from by omega]
    exact ⟨c, rfl⟩
  · rintro v h' ⟨rfl, c, rfl⟩
    exact ⟨_, _, Z2 [0, 2] (by decide) (by simp) (by rfl) rfl ⟨rfl, trivial⟩, rfl, c, rfl⟩
theorem z24 (n : Nat) (hb : 1 ≤ n ∧ n ≤ 64) :
    Zs Try.prog 27 [.v (.int .i64 n), .roI .u8 []] [] fun v h' => v = .tup [.ptr 0 0 0, .v (.int .i64 0)] ∧ ∃ c,
      h' = [some [.arr 8 .u64 (Y4 n []), .v (.int .i64 n), .sl 1 0 1 0 0 c, .v (.int .u64 0)], some [.arr 0 .u8 []]] := by
  refine Zs.weak (C := c4 0) rfl (κ := fun v h' => v = .tup [.ptr 0 0 0, .v (.int .i64 0)] ∧
      h' = [some [.arr 8 .u64 (Y4 n []), .v (.int .i64 n), .v (.slice none 0 0), .v (.int .u64 0)]]) ?_ ?_
  · refine Zq (znd 0) Try.func27 rfl ⟨by kernel_rfl, by show 2 ≤ _; decide, by kernel_rfl, by kernel_rfl⟩ rfl ?_; have hr : Try.f27.results.toList = [.tmp 4, .tmp 5] := rfl
    repeat (first | simp only [c5_P, zdt, zg4, Nat.reduceBEq, reduceIte, Nat.reduceEqDiff, reduceCtorEq, ne_eq, if_true, if_false, exA, exA, tabs, exB, exD, Zl, Zp, Ze, Zi, Zn, AV.isAggV, AV.parts, AV.one, AV.solid, Zf, Zb, Zj, Zc, Zk, Zh, Zg, bndA, lenA, Zd, rowOf, Za, intsOf, Zo, Nat.reduceAdd, Nat.reduceSub, Nat.reduceMul, Nat.reduceLeDiff, Nat.reduceLT, Nat.reduceGT, Int.reduceToNat, Int.reduceLE, Int.reduceLT, Int.reduceEq, Int.reduceNe, Int.reduceAdd, Int.reduceSub, Int.reduceMul, Int.reduceNeg, ite_true, ite_false, dite_true, zbz, zb0, p4, p3, p2, p1, Yk, Yl, Yj, Yg, Yh, Yf, Ym, n5, Yp, hr] | simp (maxSteps := 1000000) (disch := omega) only [exE, Int.toNat_natCast, Int.reduceToNat])
    rfl
  · rintro v h' ⟨rfl, rfl⟩
    exact ⟨_, _, z35 (b := 0) [.arr 8 .u64 (Y4 n []), .v (.int .i64 n)] [.v (.int .u64 0)] .u8 rfl, rfl, 0, rfl⟩
theorem ycr (n : Nat) (key : List Int) (hb : 1 ≤ n ∧ n ≤ 64) (hk : key.length ≤ 64) :
    Zs Try.prog 27 [.v (.int .i64 n), .roI .u8 key] [] fun v h' => v = .tup [.ptr 0 0 0, .v (.int .i64 0)] ∧ ∃ c,
      h' = [some (zc5 (Y4 n key) n (keyB key) c 1), some (zf6 (keyB key))] := by
  by_cases h0 : key.length = 0
  · obtain rfl := List.eq_nil_of_length_eq_zero h0
    refine (z24 n hb).mono ?_
    rintro v h' ⟨rfl, c, rfl⟩
    exact ⟨rfl, c, rfl⟩
  · refine (z87 n key (by omega) hb).mono ?_
    rintro v h' ⟨rfl, c, rfl⟩
    have h1 : keyB key = padL key := by unfold keyB; rw [if_neg h0]
    have h2 := zpo key (by omega)
    refine ⟨rfl, c, ?_⟩
    unfold zc5 zf6
    rw [h1, h2]
    rfl
end Go.Proofs.Ytfnfmbikooeiaaa
namespace Go.Proofs.Ytfnfmbikooeiaaa
open Go.Ax
theorem zxt (h0 all m : List Int) (size c : Nat) (hh : h0.length = 8) (hb : all.length + m.length ≤ 1099511627776) :
    Zs Try.prog 29 [.ptr 0 0 0, .roI .u8 m] [some (zc5 h0 size all c 1), some (zf6 all)]
      fun v h' => v = .tup [] ∧ ∃ c', h' = [some (zc5 h0 size (all ++ m) c' 2), none, some (zf6 (all ++ m))] := by
  obtain ⟨q, hq⟩ : ∃ q, qOf all.length = q := ⟨_, rfl⟩
  have hq1 : 128 * q ≤ all.length := hq ▸ zts _
  have hq2 : all.length ≤ 128 * q + 128 := by rw [← hq]; unfold qOf; omega
  obtain ⟨R, hR⟩ : ∃ R, all.drop (128 * q) ++ m = R := ⟨_, rfl⟩
  have hRl : R.length = all.length - 128 * q + m.length := by rw [← hR]; simp
  obtain ⟨N, hN⟩ : ∃ N, (R.length - 1) / 128 = N := ⟨_, rfl⟩
  have hQ : qOf (all ++ m).length = q + N := by rw [← hN, ← hq]; unfold qOf at *; simp only [List.length_append]; omega
  have hdrop : ∀ i, R.drop (128 * i) = (all ++ m).drop (128 * (q + i)) := by
    intro i
    rw [← hR, ← List.drop_append_of_le_length hq1, List.drop_drop]
    congr 1; omega
  refine Zs.weak (C := c5 2) rfl (κ := fun v h' => v = .tup [] ∧ ∃ c', h' = [some (zc5 h0 size (all ++ m) c' 3), none, some [.arr R.length .u8 R], some (zf6 (all ++ m))]) ?_ ?_
  · unfold zc5 zf6
    rw [hQ, hq]
    refine Zq (znd 2) Try.func29 rfl ⟨by kernel_rfl, by show 2 ≤ _; decide, by kernel_rfl, by kernel_rfl⟩ rfl ?_; have hr : Try.f29.results.toList = [] := rfl
    repeat (first | simp only [c5_P, zdt, zg4, Nat.reduceBEq, reduceIte, Nat.reduceEqDiff, reduceCtorEq, ne_eq, if_true, if_false, exA, exA, tabs, exB, exD, Zl, Zp, Ze, Zi, Zn, AV.isAggV, AV.parts, AV.one, AV.solid, Zf, Zb, Zj, Zc, Zk, Zh, Zg, bndA, lenA, Zd, rowOf, Za, intsOf, Zo, Nat.reduceAdd, Nat.reduceSub, Nat.reduceMul, Nat.reduceLeDiff, Nat.reduceLT, Nat.reduceGT, Int.reduceToNat, Int.reduceLE, Int.reduceLT, Int.reduceEq, Int.reduceNe, Int.reduceAdd, Int.reduceSub, Int.reduceMul, Int.reduceNeg, ite_true, ite_false, dite_true, zbz, zb0, p4, p3, p2, p1, Yk, Yl, Yj, Yg, Yh, Yf, Ym, n5, Yp, hr, hR] | simp (maxSteps := 1000000) (disch := omega) only [exE, Int.toNat_natCast, Int.reduceToNat])
    intro c2 hc2
    repeat (first | simp only [c5_P, zdt, zg4, Nat.reduceBEq, reduceIte, Nat.reduceEqDiff, reduceCtorEq, ne_eq, if_true, if_false, exA, exA, tabs, exB, exD, Zl, Zp, Ze, Zi, Zn, AV.isAggV, AV.parts, AV.one, AV.solid, Zf, Zb, Zj, Zc, Zk, Zh, Zg, bndA, lenA, Zd, rowOf, Za, intsOf, Zo, Nat.reduceAdd, Nat.reduceSub, Nat.reduceMul, Nat.reduceLeDiff, Nat.reduceLT, Nat.reduceGT, Int.reduceToNat, Int.reduceLE, Int.reduceLT, Int.reduceEq, Int.reduceNe, Int.reduceAdd, Int.reduceSub, Int.reduceMul, Int.reduceNeg, ite_true, ite_false, dite_true, zbz, zb0, p4, p3, p2, p1, Yk, Yl, Yj, Yg, Yh, Yf, Ym, n5, Yp, hr, hR] | simp (maxSteps := 1000000) (disch := omega) only [exE, Int.toNat_natCast, Int.reduceToNat])
    rw [show all.length - 128 * q + m.length = R.length from hRl.symm]
    refine Z3 (znd 2) (fun i => ⟨envL [(0, .ptr 0 0 0), (4, .v (.int .i64 (128 * i : Nat)))],
      [some [.arr 8 .u64 (pieces h0 (all ++ m) (q + i)), .v (.int .i64 size), .sl 2 0 1 0 R.length c2, .v (.int .u64 (128 * (q + i) : Nat))], none, some [.arr R.length .u8 R]]⟩) N (by kernel_rfl) ?_ ?_ ?_
    · have := zpi h0 all m q hq1
      (refine Z1 ?_ ?_; (focus (first | with_reducible rfl | (simp only [this, hR, Nat.add_zero, Nat.mul_zero] <;> with_reducible rfl))); simp only [exF, Nat.reduceEqDiff, if_true, if_false, reduceIte, Option.some.injEq, reduceCtorEq, Int.cast_ofNat_Int, this, hR, Nat.add_zero, Nat.mul_zero])
    · intro i hi
      have hl := pieces_len h0 (all ++ m) (q + i)
      repeat (first | simp only [c5_P, zdt, zg4, Nat.reduceBEq, reduceIte, Nat.reduceEqDiff, reduceCtorEq, ne_eq, if_true, if_false, exA, exA, tabs, exB, exD, Zl, Zp, Ze, Zi, Zn, AV.isAggV, AV.parts, AV.one, AV.solid, Zf, Zb, Zj, Zc, Zk, Zh, Zg, bndA, lenA, Zd, rowOf, Za, intsOf, Zo, Nat.reduceAdd, Nat.reduceSub, Nat.reduceMul, Nat.reduceLeDiff, Nat.reduceLT, Nat.reduceGT, Int.reduceToNat, Int.reduceLE, Int.reduceLT, Int.reduceEq, Int.reduceNe, Int.reduceAdd, Int.reduceSub, Int.reduceMul, Int.reduceNeg, ite_true, ite_false, dite_true, zbz, zb0, p4, p3, p2, p1, Yk, Yl, Yj, Yg, Yh, Yf, Ym, n5, Yp, hr, hl, hh] | simp (maxSteps := 1000000) (disch := omega) only [exE, Int.toNat_natCast, Int.reduceToNat, z1m])
      repeat (with_reducible refine And.intro (by first | omega | assumption) ?_)
      have e1 : pieces h0 (all ++ m) (q + (i + 1)) = Q8 (pieces h0 (all ++ m) (q + i)) ((R.drop (128 * i)).take 128) ((128 * (q + i) + 128 : Nat) : Int) false := by rw [hdrop]; rfl
      have e2 : 128 * (q + (i + 1)) = 128 * (q + i) + 128 := by omega
      have e3 : 128 * (i + 1) = 128 * i + 128 := by omega
      (refine Z1 ?_ ?_; (focus (first | with_reducible rfl | (simp only [e1, e2, e3] <;> with_reducible rfl))); simp only [exF, Nat.reduceEqDiff, if_true, if_false, reduceIte, Option.some.injEq, reduceCtorEq, Int.cast_ofNat_Int, e1, e2, e3])
    · repeat (first | simp only [c5_P, zdt, zg4, Nat.reduceBEq, reduceIte, Nat.reduceEqDiff, reduceCtorEq, ne_eq, if_true, if_false, exA, exA, tabs, exB, exD, Zl, Zp, Ze, Zi, Zn, AV.isAggV, AV.parts, AV.one, AV.solid, Zf, Zb, Zj, Zc, Zk, Zh, Zg, bndA, lenA, Zd, rowOf, Za, intsOf, Zo, Nat.reduceAdd, Nat.reduceSub, Nat.reduceMul, Nat.reduceLeDiff, Nat.reduceLT, Nat.reduceGT, Int.reduceToNat, Int.reduceLE, Int.reduceLT, Int.reduceEq, Int.reduceNe, Int.reduceAdd, Int.reduceSub, Int.reduceMul, Int.reduceNeg, ite_true, ite_false, dite_true, zbz, zb0, p4, p3, p2, p1, Yk, Yl, Yj, Yg, Yh, Yf, Ym, n5, Yp, hr] | simp (maxSteps := 1000000) (disch := omega) only [exE, Int.toNat_natCast, Int.reduceToNat])
      repeat (with_reducible refine And.intro (by first | omega | assumption) ?_)
      intro c3 _
      have e1 : all.length + m.length - 128 * (q + N) = R.length - 128 * N := by omega
      have e2 := hdrop N
      rw [e1, ← e2]
      exact ⟨c3, rfl⟩
  · rintro v h' ⟨rfl, c', rfl⟩
    exact ⟨_, _, Z2 [0, 1, 3] (by decide) (by simp) (by rfl) rfl ⟨rfl, trivial⟩, rfl, c', rfl⟩
end Go.Proofs.Ytfnfmbikooeiaaa
namespace Go.Proofs.Ytfnfmbikooeiaaa
open Go.Ax
theorem z6j (h0 all : List Int) (size c : Nat) (hh : h0.length = 8) (hs : 0 < size ∧ size ≤ 64) (hb : all.length ≤ 1099511627776) :
    Zs Try.prog 30 [.ptr 0 0 0] [some (zc5 h0 size all c 1), some (zf6 all)]
      fun v h' => v = .sl 2 0 1 0 size size ∧ h' = [some (zc5 h0 size all c 1), some (zf6 all), some [.arr size .u8 (zgq h0 size all)]] := by
  have hq := zts all.length
  have hl : (all.drop (128 * qOf all.length)).length = all.length - 128 * qOf all.length := by simp
  have h1 := zsu (pieces h0 all (qOf all.length)) (all.drop (128 * qOf all.length)) size c ((128 * qOf all.length : Nat) : Int) (by rw [pieces_len, hh]) hs (by rw [hl]; unfold qOf; omega)
  rw [hl, z1m _ _ (by omega)] at h1
  simp only [Int.toNat_natCast] at h1
  rw [show 128 * qOf all.length + (all.length - 128 * qOf all.length) = all.length from by omega] at h1
  exact h1
theorem z6i : Zs Try.prog 30 [.v (.pointer none)] [] fun v h' => v = .v (.slice none 0 0) ∧ h' = [] := by
  refine Zq (znd 0) Try.func30 rfl ⟨by kernel_rfl, by show 1 ≤ _; decide, by kernel_rfl, by kernel_rfl⟩ rfl ?_; have hr : Try.f30.results.toList = [.tmp 2] := rfl
  repeat (first | simp only [c5_P, zdt, zg4, Nat.reduceBEq, reduceIte, Nat.reduceEqDiff, reduceCtorEq, ne_eq, if_true, if_false, exA, exA, tabs, exB, exD, Zl, Zp, Ze, Zi, Zn, AV.isAggV, AV.parts, AV.one, AV.solid, Zf, Zb, Zj, Zc, Zk, Zh, Zg, bndA, lenA, Zd, rowOf, Za, intsOf, Zo, Nat.reduceAdd, Nat.reduceSub, Nat.reduceMul, Nat.reduceLeDiff, Nat.reduceLT, Nat.reduceGT, Int.reduceToNat, Int.reduceLE, Int.reduceLT, Int.reduceEq, Int.reduceNe, Int.reduceAdd, Int.reduceSub, Int.reduceMul, Int.reduceNeg, ite_true, ite_false, dite_true, zbz, zb0, p4, p3, p2, p1, Yk, Yl, Yj, Yg, Yh, Yf, Ym, n5, Yp, hr] | simp (maxSteps := 1000000) (disch := omega) only [exE, Int.toNat_natCast, Int.reduceToNat])
theorem z6u : Zs Try.prog 28 [.v (.pointer none)] [] fun v h' => v = .v (.pointer none) ∧ h' = [] := by
  refine Zq (znd 0) Try.func28 rfl ⟨by kernel_rfl, by show 1 ≤ _; decide, by kernel_rfl, by kernel_rfl⟩ rfl ?_; have hr : Try.f28.results.toList = [.tmp 2] := rfl
  repeat (first | simp only [c5_P, zdt, zg4, Nat.reduceBEq, reduceIte, Nat.reduceEqDiff, reduceCtorEq, ne_eq, if_true, if_false, exA, exA, tabs, exB, exD, Zl, Zp, Ze, Zi, Zn, AV.isAggV, AV.parts, AV.one, AV.solid, Zf, Zb, Zj, Zc, Zk, Zh, Zg, bndA, lenA, Zd, rowOf, Za, intsOf, Zo, Nat.reduceAdd, Nat.reduceSub, Nat.reduceMul, Nat.reduceLeDiff, Nat.reduceLT, Nat.reduceGT, Int.reduceToNat, Int.reduceLE, Int.reduceLT, Int.reduceEq, Int.reduceNe, Int.reduceAdd, Int.reduceSub, Int.reduceMul, Int.reduceNeg, ite_true, ite_false, dite_true, zbz, zb0, p4, p3, p2, p1, Yk, Yl, Yj, Yg, Yh, Yf, Ym, n5, Yp, hr] | simp (maxSteps := 1000000) (disch := omega) only [exE, Int.toNat_natCast, Int.reduceToNat])
end Go.Proofs.Ytfnfmbikooeiaaa
namespace Go.Proofs.Ytfnfmbikooeiaaa
open Go.Ax
def N27 (h : List Blk) : List AV → Option Out
  | [.v (.int .i64 n), x] => (u8Of h x).bind fun key => Zu (key.length ≤ 140737488355328) (osel (decide (n < 1 ∨ 64 < n ∨ 64 < key.length)) (some (.one (.tup [.v (.pointer none), .v (.int .i64 1)]) h))
      (some (.cap 0 fun c => (.tup [.ptr h.length 0 0, .v (.int .i64 0)], h ++ [some (zc5 (Y4 n.toNat key) n.toNat (keyB key) c (h.length + 1)), some (zf6 (keyB key))]))))
  | _ => none
theorem Qe (h : List Blk) (n : Int) (x : AV) : N27 h [.v (.int .i64 n), x] = (u8Of h x).bind fun key => Zu (key.length ≤ 140737488355328) (osel (decide (n < 1 ∨ 64 < n ∨ 64 < key.length)) (some (.one (.tup [.v (.pointer none), .v (.int .i64 1)]) h))
      (some (.cap 0 fun c => (.tup [.ptr h.length 0 0, .v (.int .i64 0)], h ++ [some (zc5 (Y4 n.toNat key) n.toNat (keyB key) c (h.length + 1)), some (zf6 (keyB key))])))) := rfl
noncomputable def n6 : FuncId → Option (List Blk → List AV → Option Out) := Qz n5 27 N27
noncomputable def c6 (k : Nat) : Cfg := ⟨Try.prog, k, p4, [], n6, none, []⟩
theorem Qy (k : Nat) : (c6 k).odd = [] := rfl
theorem Jq (k : Nat) : (c6 k).ro = [] := rfl
theorem c6_P (k : Nat) : (c6 k).P = Try.prog := rfl
theorem Y9 (k : Nat) : (c6 k).pure = p4 := rfl
theorem Qa (k : Nat) : (c6 k).news = n6 := rfl
theorem zf7 (k : Nat) : (c6 k).Good := by
  refine Cfg.Good.addN (znd k) ?_ k
  intro h args out hN
  unfold N27 at hN
  split at hN
  · rename_i n x
    obtain ⟨key, hl, hN⟩ := Option.bind_eq_some_iff.1 hN
    obtain ⟨h1, hN⟩ := Zt hN
    by_cases hb : n < 1 ∨ 64 < n ∨ 64 < key.length
    · rw [zcj (decide_eq_true hb)] at hN
      cases hN
      refine ⟨⟨[], by simp⟩, fun κ hκ => Ql (args := [.v (.int .i64 n), x]) (z88 n key h1 hb) (by rintro _ _ ⟨rfl, rfl⟩; exact ⟨rfl, rfl⟩) (fun g => rfl) ⟨Frz.same _, Qv hl, trivial⟩ ?_ hκ⟩
      rintro _ _ ⟨rfl, rfl⟩
      exact ⟨rfl, by simp⟩
    · rw [zck (decide_eq_false hb)] at hN
      cases hN
      obtain ⟨n, rfl⟩ := Int.eq_ofNat_of_zero_le (show 0 ≤ n by omega)
      refine ⟨fun c _ => ⟨_, rfl⟩, fun κ hκ => Ql (args := [.v (.int .i64 n), x]) (ycr n key (by omega) (by omega)) (by rintro _ _ ⟨rfl, c, rfl⟩; exact ⟨rfl, rfl⟩) (fun g => rfl) ⟨Frz.same _, Qv hl, trivial⟩ ?_ hκ⟩
      rintro _ _ ⟨rfl, c, rfl⟩
      exact ⟨c, Nat.zero_le _, rfl⟩
  · cases hN
theorem z8j (n : Int) (key : List Int) (ms : List (List Int)) (hk : key.length ≤ 140737488355328) (hb : n < 1 ∨ 64 < n ∨ 64 < key.length) :
    Zs Try.prog 20 [.v (.int .i64 n), .roI .u8 key, .roL 1 (ms.map (AV.roI .u8))] [] fun v h' => v = .tup [.v (.slice none 0 0), .v (.int .i64 1)] ∧ h' = [] := by
  refine Zq (zf7 0) Try.func20 rfl ⟨by kernel_rfl, by show 3 ≤ _; decide, by kernel_rfl, by kernel_rfl⟩ rfl ?_; have hr : Try.f20.results.toList = [.tmp 6, .tmp 7] := rfl
  repeat (first | simp only [c6_P, Qy, Jq, Nat.reduceBEq, reduceIte, Nat.reduceEqDiff, reduceCtorEq, ne_eq, if_true, if_false, exA, exA, tabs, exB, exD, Zl, Zp, Ze, Zi, Zn, AV.isAggV, AV.parts, AV.one, AV.solid, Zf, Zb, Zj, Zc, Zk, Zh, Zg, bndA, lenA, Zd, rowOf, Za, intsOf, Zo, Nat.reduceAdd, Nat.reduceSub, Nat.reduceMul, Nat.reduceLeDiff, Nat.reduceLT, Nat.reduceGT, Int.reduceToNat, Int.reduceLE, Int.reduceLT, Int.reduceEq, Int.reduceNe, Int.reduceAdd, Int.reduceSub, Int.reduceMul, Int.reduceNeg, ite_true, ite_false, dite_true, Y9, Qa, p4, p3, p2, p1, Yk, Yl, Yj, Yg, Yh, Yf, Ym, n6, n5, Yp, Qe, hr] | simp (maxSteps := 1000000) (disch := omega) only [exE, Int.toNat_natCast, Int.reduceToNat])
  exact hk
theorem yck (n : Nat) (key : List Int) (ms : List (List Int)) (hb : 1 ≤ n ∧ n ≤ 64) (hk : key.length ≤ 64) (hm : ms.flatten.length ≤ 549755813888 ∧ ms.length ≤ 549755813888) :
    Zs Try.prog 20 [.v (.int .i64 n), .roI .u8 key, .roL 1 (ms.map (AV.roI .u8))] [] fun v h' => v = .tup [.sl 0 0 1 0 n n, .v (.int .i64 0)] ∧ h' = [some [.arr n .u8 (Qd n key ms.flatten)]] := by
  refine Zs.weak (C := c6 0) rfl (κ := fun v h' => v = .tup [.sl 2 0 1 0 n n, .v (.int .i64 0)] ∧ ∃ x y, h' = [x, y, some [.arr n .u8 (Qd n key ms.flatten)]]) ?_ ?_
  · have hkl := z6g key hk
    refine Zq (zf7 0) Try.func20 rfl ⟨by kernel_rfl, by show 3 ≤ _; decide, by kernel_rfl, by kernel_rfl⟩ rfl ?_; have hr : Try.f20.results.toList = [.tmp 6, .tmp 7] := rfl
    repeat (first | simp only [c6_P, Qy, Jq, Nat.reduceBEq, reduceIte, Nat.reduceEqDiff, reduceCtorEq, ne_eq, if_true, if_false, exA, exA, tabs, exB, exD, Zl, Zp, Ze, Zi, Zn, AV.isAggV, AV.parts, AV.one, AV.solid, Zf, Zb, Zj, Zc, Zk, Zh, Zg, bndA, lenA, Zd, rowOf, Za, intsOf, Zo, Nat.reduceAdd, Nat.reduceSub, Nat.reduceMul, Nat.reduceLeDiff, Nat.reduceLT, Nat.reduceGT, Int.reduceToNat, Int.reduceLE, Int.reduceLT, Int.reduceEq, Int.reduceNe, Int.reduceAdd, Int.reduceSub, Int.reduceMul, Int.reduceNeg, ite_true, ite_false, dite_true, Y9, Qa, p4, p3, p2, p1, Yk, Yl, Yj, Yg, Yh, Yf, Ym, n6, n5, Yp, Qe, hr] | simp (maxSteps := 1000000) (disch := omega) only [exE, Int.toNat_natCast, Int.reduceToNat])
    repeat (with_reducible refine And.intro (by first | omega | assumption) ?_)
    intro c0 _
    refine Jy (zf7 0) (fun i c => ⟨envL [(8, .ptr 0 0 0), (21, .roL 1 (ms.map (AV.roI .u8))), (22, .v (.int .i64 ms.length)), (23, .v (.int .i64 i))],
      [some (zc5 (Y4 n key) n (keyB key ++ (ms.take i).flatten) c 1), some (zf6 (keyB key ++ (ms.take i).flatten))]⟩) ms.length (by kernel_rfl) ⟨c0, ?_⟩ ?_ ?_
    · (refine Z1 ?_ ?_; (focus (first | with_reducible rfl | (simp only [List.take_zero, List.flatten_nil, List.append_nil] <;> with_reducible rfl))); simp only [exF, Nat.reduceEqDiff, if_true, if_false, reduceIte, Option.some.injEq, reduceCtorEq, Int.cast_ofNat_Int, List.take_zero, List.flatten_nil, List.append_nil])
    · intro i c hi
      have hg := z8z .u8 ms i hi
      have hf := z3j ms i hi
      have h1 := z0z ms i
      have h2 := z0z ms (i + 1)
      rw [hf, List.length_append] at h2
      repeat (first | simp only [c6_P, Qy, Jq, Nat.reduceBEq, reduceIte, Nat.reduceEqDiff, reduceCtorEq, ne_eq, if_true, if_false, exA, exA, tabs, exB, exD, Zl, Zp, Ze, Zi, Zn, AV.isAggV, AV.parts, AV.one, AV.solid, Zf, Zb, Zj, Zc, Zk, Zh, Zg, bndA, lenA, Zd, rowOf, Za, intsOf, Zo, Nat.reduceAdd, Nat.reduceSub, Nat.reduceMul, Nat.reduceLeDiff, Nat.reduceLT, Nat.reduceGT, Int.reduceToNat, Int.reduceLE, Int.reduceLT, Int.reduceEq, Int.reduceNe, Int.reduceAdd, Int.reduceSub, Int.reduceMul, Int.reduceNeg, ite_true, ite_false, dite_true, Y9, Qa, p4, p3, p2, p1, Yk, Yl, Yj, Yg, Yh, Yf, Ym, n6, n5, Yp, Qe, hr, hg] | simp (maxSteps := 1000000) (disch := omega) only [exE, Int.toNat_natCast, Int.reduceToNat])
      repeat (with_reducible refine And.intro (by first | omega | assumption) ?_)
      refine zar [0, 1] (zxt (Y4 n key) (keyB key ++ (ms.take i).flatten) (ms.getD i []) n c rfl (by rw [List.length_append]; omega)) rfl rfl (by decide) ?_
      rintro _ _ ⟨rfl, c', rfl⟩
      repeat (first | simp only [c6_P, Qy, Jq, Nat.reduceBEq, reduceIte, Nat.reduceEqDiff, reduceCtorEq, ne_eq, if_true, if_false, exA, exA, tabs, exB, exD, Zl, Zp, Ze, Zi, Zn, AV.isAggV, AV.parts, AV.one, AV.solid, Zf, Zb, Zj, Zc, Zk, Zh, Zg, bndA, lenA, Zd, rowOf, Za, intsOf, Zo, Nat.reduceAdd, Nat.reduceSub, Nat.reduceMul, Nat.reduceLeDiff, Nat.reduceLT, Nat.reduceGT, Int.reduceToNat, Int.reduceLE, Int.reduceLT, Int.reduceEq, Int.reduceNe, Int.reduceAdd, Int.reduceSub, Int.reduceMul, Int.reduceNeg, ite_true, ite_false, dite_true, Y9, Qa, p4, p3, p2, p1, Yk, Yl, Yj, Yg, Yh, Yf, Ym, n6, n5, Yp, Qe, hr, Ya, renB, renL, AV.ren, zgo, ziw, Yb] | simp (maxSteps := 1000000) (disch := omega) only [exE, Int.toNat_natCast, Int.reduceToNat])
      refine ⟨c', ?_⟩
      rw [hf, ← List.append_assoc]
      (refine Z2 [0, 2] (by decide) (by simp) (by rfl) ?_ ?_; (focus (first | with_reducible rfl | (simp only [List.map_cons, List.map_nil, List.cons_append, List.nil_append, List.getElem?_cons_zero, List.getElem?_cons_succ, renB, renL, Option.map_some, Option.map_none, AV.ren, Z4, List.getD_cons_zero, List.getD_cons_succ, zgo, ziw] <;> with_reducible rfl))); simp only [exF, List.map_cons, List.map_nil, List.length_cons, List.length_nil, Nat.reduceAdd, AV.ren, renL, Z4, Nat.reduceEqDiff, if_true, if_false, reduceIte, Option.some.injEq, reduceCtorEq, Int.cast_ofNat_Int, zgo, ziw])
    · intro c
      have h1 : ms.take ms.length = ms := List.take_length
      repeat (first | simp only [c6_P, Qy, Jq, Nat.reduceBEq, reduceIte, Nat.reduceEqDiff, reduceCtorEq, ne_eq, if_true, if_false, exA, exA, tabs, exB, exD, Zl, Zp, Ze, Zi, Zn, AV.isAggV, AV.parts, AV.one, AV.solid, Zf, Zb, Zj, Zc, Zk, Zh, Zg, bndA, lenA, Zd, rowOf, Za, intsOf, Zo, Nat.reduceAdd, Nat.reduceSub, Nat.reduceMul, Nat.reduceLeDiff, Nat.reduceLT, Nat.reduceGT, Int.reduceToNat, Int.reduceLE, Int.reduceLT, Int.reduceEq, Int.reduceNe, Int.reduceAdd, Int.reduceSub, Int.reduceMul, Int.reduceNeg, ite_true, ite_false, dite_true, Y9, Qa, p4, p3, p2, p1, Yk, Yl, Yj, Yg, Yh, Yf, Ym, n6, n5, Yp, Qe, hr] | simp (maxSteps := 1000000) (disch := omega) only [exE, Int.toNat_natCast, Int.reduceToNat])
      refine zar [0, 1] (z6j (Y4 n key) (keyB key ++ ms.flatten) n c rfl (by omega) (by rw [List.length_append]; omega)) rfl rfl (by decide) ?_
      rintro _ _ ⟨rfl, rfl⟩
      repeat (first | simp only [c6_P, Qy, Jq, Nat.reduceBEq, reduceIte, Nat.reduceEqDiff, reduceCtorEq, ne_eq, if_true, if_false, exA, exA, tabs, exB, exD, Zl, Zp, Ze, Zi, Zn, AV.isAggV, AV.parts, AV.one, AV.solid, Zf, Zb, Zj, Zc, Zk, Zh, Zg, bndA, lenA, Zd, rowOf, Za, intsOf, Zo, Nat.reduceAdd, Nat.reduceSub, Nat.reduceMul, Nat.reduceLeDiff, Nat.reduceLT, Nat.reduceGT, Int.reduceToNat, Int.reduceLE, Int.reduceLT, Int.reduceEq, Int.reduceNe, Int.reduceAdd, Int.reduceSub, Int.reduceMul, Int.reduceNeg, ite_true, ite_false, dite_true, Y9, Qa, p4, p3, p2, p1, Yk, Yl, Yj, Yg, Yh, Yf, Ym, n6, n5, Yp, Qe, hr, Ya, renB, renL, AV.ren, zgo, ziw, Yb] | simp (maxSteps := 1000000) (disch := omega) only [exE, Int.toNat_natCast, Int.reduceToNat])
      exact ⟨_, _, rfl⟩
  · rintro v h' ⟨rfl, x, y, rfl⟩
    exact ⟨_, _, Z2 [2] (by decide) (by simp) (by rfl) rfl ⟨rfl, trivial⟩, rfl, rfl⟩
end Go.Proofs.Ytfnfmbikooeiaaa
