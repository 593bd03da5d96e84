/- Part of the proof. -/
import Derived.Test.YtfnfmbikooeiaaaAd
set_option linter.unusedSimpArgs false
set_option linter.unusedVariables false
set_option maxHeartbeats 4000000
set_option maxRecDepth 100000
namespace Go.Proofs.Ytfnfmbikooeiaaa
open Go.Ax Go.Kn
theorem z3i (l : List Nat) (a b c d : Nat) : (zb9 l a b c d).length = l.length := by simp [zb9, zfn, zpe]
theorem zjs (l : List Nat) : (Jb l).length = l.length := by simp only [Jb, z3i]
theorem z5c (Q : Nat → Nat → Nat) {z : List Int} (hl : z.length = 128) (h1 : ∀ i, i < 8 → ∀ a b, a < 16 → b < 16 → Q i a = Q i b → a = b) (h2 : ∀ i, i < 8 → ∀ a, a < 16 → Q i a < 128)
    (h3 : ∀ i i' a b, i < 8 → i' < 8 → a < 16 → b < 16 → Q i a = Q i' b → i = i') : ∀ n, n ≤ 8 → ∀ i j, i < 8 → j < 16 → (rstK Q z n).getD (Q i j) 0 = if i < n then (zce (zah z (Q i) 16)).getD j 0 else z.getD (Q i j) 0
  | 0, _, i, j, _, _ => by rw [if_neg (by omega)]; rfl
  | n + 1, hn, i, j, hi, hj => by
    have ih := z5c Q hl h1 h2 h3 n (by omega)
    have hrl : (rstK Q z n).length = 128 := by rw [zbt, hl]
    simp only [rstK]
    by_cases hin : i = n
    · subst hin
      rw [zcd _ _ (Q i) 16 (h1 i hi) (fun a ha => by rw [hrl]; exact h2 i hi a ha) j hj, if_pos (by omega)]
      congr 2
      refine extD (by rw [zaw, zaw]) ?_
      intro k hk
      rw [zaw] at hk
      rw [zhs _ _ 16 (by omega) k hk, zhs _ _ 16 (by omega) k hk, ih i k hi hk, if_neg (by omega)]
    · rw [zft _ _ (Q n) 16 _ (fun a ha => by rw [hrl]; exact h2 n (by omega) a ha) (fun a ha e => hin (h3 n i a j (by omega) hi ha hj e).symm), ih i j hi hj]
      by_cases h : i < n
      · rw [if_pos h, if_pos (by omega)]
      · rw [if_neg h, if_neg (by omega)]
noncomputable def gn (z : List Nat) (Q : Nat → Nat → Nat) (i : Nat) : List Nat := (List.range 16).map fun j => z.getD (Q i j) 0
theorem zqc (z : List Nat) (Q : Nat → Nat → Nat) (i : Nat) : (gn z Q i).length = 16 := by simp [gn]
theorem zk2 (n : Nat) (f : Nat → Nat) (j : Nat) (h : j < n) : ((List.range n).map f).getD j 0 = f j := by
  simp [List.getD_eq_getElem?_getD, h]
theorem z9l (z : List Nat) (Q : Nat → Nat → Nat) (i : Nat) : zah (zc z) (Q i) 16 = zc (gn z Q i) := by
  refine extD (by rw [zaw, J9, zqc]) ?_
  intro k hk
  rw [zaw] at hk
  rw [zhs _ _ 16 (by omega) k hk, Y1, Y1]
  unfold gn
  rw [zk2 16 _ k hk]
theorem z5b (Q : Nat → Nat → Nat) {z : List Nat} (hl : z.length = 128) (h1 : ∀ i, i < 8 → ∀ a b, a < 16 → b < 16 → Q i a = Q i b → a = b) (h2 : ∀ i, i < 8 → ∀ a, a < 16 → Q i a < 128)
    (h3 : ∀ i i' a b, i < 8 → i' < 8 → a < 16 → b < 16 → Q i a = Q i' b → i = i') {i j : Nat} (hi : i < 8) (hj : j < 16) : (rstK Q (zc z) 8).getD (Q i j) 0 = (((Jb (gn z Q i)).getD j 0 : Nat) : Int) := by
  rw [z5c Q (by rw [J9, hl]) h1 h2 h3 8 (Nat.le_refl _) i j hi hj, if_pos hi, z9l, z5a, Y1]
theorem zt5 : ∀ (t : List (List Nat)) (i j : Nat), (∀ a ∈ t, a.length = 16) → j < 16 → t.flatten.getD (16 * i + j) 0 = (t.getD i []).getD j 0
  | [], i, j, _, _ => by simp
  | a :: t, 0, j, h, hj => by
    have ha := h a (List.mem_cons_self ..)
    rw [List.flatten_cons, List.getD_eq_getElem?_getD, List.getElem?_append_left (by omega), ← List.getD_eq_getElem?_getD]
    rw [Nat.mul_zero, Nat.zero_add]; rfl
  | a :: t, i + 1, j, h, hj => by
    have ha := h a (List.mem_cons_self ..)
    rw [List.flatten_cons, List.getD_eq_getElem?_getD, List.getElem?_append_right (by omega), ← List.getD_eq_getElem?_getD, ha, show 16 * (i + 1) + j - 16 = 16 * i + j by omega]
    exact zt5 t i j (fun a ha => h a (List.mem_cons_of_mem _ ha)) hj
theorem zeu : ∀ (t : List (List Nat)), (∀ a ∈ t, a.length = 16) → t.flatten.length = 16 * t.length
  | [], _ => rfl
  | a :: t, h => by
    rw [List.flatten_cons, List.length_append, h a (List.mem_cons_self ..), zeu t (fun a ha => h a (List.mem_cons_of_mem _ ha)), List.length_cons]; omega
theorem ybf (f g : List Nat → Nat) (hf : f [] = 0) (hg : g [] = 0) : ∀ (t : List (List Nat)) (c : Nat), (t.flatMap fun a => [f a, g a]).getD c 0 = if c % 2 = 0 then f (t.getD (c / 2) []) else g (t.getD (c / 2) [])
  | [], c => by simp [hf, hg]
  | a :: t, 0 => by simp
  | a :: t, 1 => by simp
  | a :: t, c + 2 => by
    have := ybf f g hf hg t c
    rw [List.flatMap_cons, show [f a, g a] ++ (t.flatMap fun a => [f a, g a]) = f a :: g a :: (t.flatMap fun a => [f a, g a]) from rfl, List.getD_cons_succ, List.getD_cons_succ, this, show (c + 2) % 2 = c % 2 by omega, show (c + 2) / 2 = c / 2 + 1 by omega, List.getD_cons_succ]
theorem zt4 (f g : List Nat → Nat) : ∀ t : List (List Nat), (t.flatMap fun a => [f a, g a]).length = 2 * t.length
  | [] => rfl
  | a :: t => by
    have := zt4 f g t
    rw [List.flatMap_cons, List.length_append, this, List.length_cons]; simp; omega
noncomputable def trN (t : List (List Nat)) : List (List Nat) := (List.range 8).map fun i => t.flatMap fun a => [a.getD (2 * i) 0, a.getD (2 * i + 1) 0]
noncomputable def splitN (l : List Nat) : List (List Nat) := (List.range 8).map fun i => (l.drop (16 * i)).take 16
theorem zim (n : Nat) (f : Nat → List Nat) (j : Nat) (h : j < n) : ((List.range n).map f).getD j [] = f j := by
  simp [List.getD_eq_getElem?_getD, h]
theorem ya5 {l m : List Nat} (hl : l.length = m.length) (h : ∀ i, i < l.length → l.getD i 0 = m.getD i 0) : l = m := by
  apply List.ext_getElem hl
  intro i h1 h2
  have := h i h1
  rw [List.getD_eq_getElem?_getD, List.getD_eq_getElem?_getD, List.getElem?_eq_getElem h1, List.getElem?_eq_getElem h2] at this
  simpa using this
theorem zu3 {r : List Nat} (hr : r.length = 128) : splitN r = (List.range 8).map (gn r rowQ) := by
  unfold splitN
  refine List.map_congr_left fun i hi => ?_
  have hi := List.mem_range.1 hi
  refine ya5 (by rw [zqc, List.length_take, List.length_drop, hr]; omega) ?_
  intro j hj
  have hj : j < 16 := by rw [List.length_take] at hj; omega
  unfold gn
  rw [zk2 16 _ j hj, List.getD_eq_getElem?_getD, List.getElem?_take, if_pos hj, List.getElem?_drop, ← List.getD_eq_getElem?_getD]; rfl
theorem zwb (r : List Nat) (Q : Nat → Nat → Nat) : ((List.range 8).map (gn r Q)).map Jb = (List.range 8).map fun i => Jb (gn r Q i) := by simp only [List.map_map, Function.comp_def]
theorem zrn (r : List Nat) (Q : Nat → Nat → Nat) : ∀ a ∈ (List.range 8).map (fun i => Jb (gn r Q i)), a.length = 16 := by
  intro a ha
  obtain ⟨i, _, rfl⟩ := List.mem_map.1 ha
  rw [zjs, zqc]
theorem yat (t : List (List Nat)) (j c : Nat) (hj : j < 8) : ((trN t).getD j []).getD c 0 = (t.getD (c / 2) []).getD (2 * j + c % 2) 0 := by
  unfold trN
  rw [zim 8 _ j hj, ybf (fun a => a.getD (2 * j) 0) (fun a => a.getD (2 * j + 1) 0) rfl rfl]
  split
  · rename_i h; rw [h, Nat.add_zero]
  · rename_i h; rw [show c % 2 = 1 by omega]
theorem zxw {t : List (List Nat)} (h : t.length = 8) : ∀ a ∈ trN t, a.length = 16 := by
  intro a ha
  obtain ⟨i, _, rfl⟩ := List.mem_map.1 ha
  rw [zt4, h]
theorem z8x {r : List Nat} (hr : r.length = 128) : rstK rowQ (zc r) 8 = zc (((List.range 8).map fun i => Jb (gn r rowQ i)).flatten) := by
  have hl := zrn r rowQ
  refine extD (by rw [zbt, J9, J9, hr, zeu _ hl, List.length_map, List.length_range]) ?_
  intro p hp
  rw [zbt, J9, hr] at hp
  have h := z5b rowQ hr (fun i _ => z0c i) (fun i hi => z0d hi rfl) (by unfold rowQ; omega) (show p / 16 < 8 by omega) (show p % 16 < 16 by omega)
  rw [show rowQ (p / 16) (p % 16) = p by unfold rowQ; omega] at h
  have h2 := zt5 _ (p / 16) (p % 16) hl (by omega)
  rw [show 16 * (p / 16) + p % 16 = p by omega] at h2
  rw [h, Y1, h2, zim 8 _ _ (by omega)]
theorem z9r {t : List (List Nat)} (ht : t.length = 8) (hl : ∀ a ∈ t, a.length = 16) : trN t = (List.range 8).map (gn t.flatten colQ) := by
  unfold trN
  refine List.map_congr_left fun i hi => ?_
  have hi := List.mem_range.1 hi
  refine ya5 (by rw [zqc, zt4, ht]) ?_
  intro c hc
  have hc : c < 16 := by rw [zt4, ht] at hc; exact hc
  have h := yat t i c hi
  unfold trN at h
  rw [zim 8 _ i hi] at h
  unfold gn
  rw [h, zk2 16 _ c hc]
  have h2 := zt5 t (c / 2) (2 * i + c % 2) hl (by omega)
  rw [show 16 * (c / 2) + (2 * i + c % 2) = colQ i c by unfold colQ; omega] at h2
  rw [h2]
theorem z9q {z : List Nat} (hz : z.length = 128) : rstK colQ (zc z) 8 = zc ((trN ((List.range 8).map fun i => Jb (gn z colQ i))).flatten) := by
  have hl : ∀ a ∈ trN ((List.range 8).map fun i => Jb (gn z colQ i)), a.length = 16 := zxw (by simp)
  refine extD (by rw [zbt, J9, J9, hz, zeu _ hl]; unfold trN; rw [List.length_map, List.length_range]) ?_
  intro p hp
  rw [zbt, J9, hz] at hp
  have h := z5b colQ hz (fun i hi => z09 i hi) (fun i hi => z1a hi rfl) (by unfold colQ; omega) (show p % 16 / 2 < 8 by omega) (show 2 * (p / 16) + p % 2 < 16 by omega)
  rw [show colQ (p % 16 / 2) (2 * (p / 16) + p % 2) = p by unfold colQ; omega] at h
  have h2 := zt5 _ (p / 16) (p % 16) hl (by omega)
  rw [show 16 * (p / 16) + p % 16 = p by omega] at h2
  rw [h, Y1, h2, yat _ _ _ (by omega), zim 8 _ _ (by omega), show p % 16 % 2 = p % 2 by omega]
theorem ycg : ∀ (x y : List Nat) (i : Nat), i < x.length → x.length = y.length → (List.zipWith xM x y).getD i 0 = xM (x.getD i 0) (y.getD i 0) := by
  intro x y i h1 h2
  simp [List.getD_eq_getElem?_getD, List.getElem?_zipWith, List.getElem?_eq_getElem h1, List.getElem?_eq_getElem (h2 ▸ h1)]
theorem zga {x y : List Nat} (hx : x.length = 128) (hy : y.length = 128) : xorK (zc x) (zc y) 128 = zc (List.zipWith xM x y) := by
  refine extD (by rw [Qu, J9, J9, List.length_zipWith, hx, hy]; rfl) ?_
  intro i hi
  rw [Qu, J9, hx] at hi
  rw [znr _ _ 128 (by rw [J9, hx]; omega), if_pos hi, Y1, Y1, Y1, zdd, ycg _ _ _ (by omega) (by omega)]
noncomputable def zhk (x y : List Nat) : List Nat :=
  List.zipWith xM ((trN ((trN ((splitN (List.zipWith xM x y)).map Jb)).map Jb)).flatten) (List.zipWith xM x y)
theorem za0 {x y : List Nat} (hx : x.length = 128) (hy : y.length = 128) : (List.zipWith xM x y).length = 128 := by rw [List.length_zipWith, hx, hy]; rfl
theorem zty {r : List Nat} (hr : r.length = 128) : ((trN ((trN ((splitN r).map Jb)).map Jb)).flatten).length = 128 := by
  rw [zeu _ (zxw (by simp [trN]))]; simp [trN]
theorem zmd {x y : List Nat} (hx : x.length = 128) (hy : y.length = 128) : (zhk x y).length = 128 := by
  unfold zhk; exact za0 (zty (za0 hx hy)) (za0 hx hy)
theorem z83 {x y : List Nat} (hx : x.length = 128) (hy : y.length = 128) : ze2 (zc x) (zc y) = zc (zhk x y) := by
  have hr := za0 hx hy
  have h0 : rxK (zc x) (zc y) 128 = zc (List.zipWith xM x y) := by rw [z46 _ _ (by rw [J9, hx]), zga hx hy]
  unfold ze2 znu zhk
  rw [h0]
  obtain ⟨r, hrr⟩ : ∃ r, List.zipWith xM x y = r := ⟨_, rfl⟩
  rw [hrr] at hr ⊢
  have hm := zty hr
  have hl := zrn r rowQ
  have h1 : ((List.range 8).map fun i => Jb (gn r rowQ i)).flatten.length = 128 := by rw [zeu _ hl]; simp
  rw [z8x hr, z9q h1]
  rw [zu3 hr, zwb] at hm ⊢
  rw [z9r (by simp) hl, zwb] at hm ⊢
  exact zga hm hr
theorem z4u {α : Type} : ∀ (n : Nat) (l : List Nat) (k : List (List Nat) → α), 16 * n ≤ l.length → spC n l k = k ((List.range n).map fun i => (l.drop (16 * i)).take 16)
  | 0, l, k, _ => rfl
  | n + 1, l, k, h => by
    show tkC 16 l (fun a l => spC n l fun t => k (a :: t)) = _
    rw [zeg _ (by omega), z4u n _ _ (by rw [List.length_drop]; omega), List.range_succ_eq_map, List.map_cons, List.map_map]
    congr 2
    refine List.map_congr_left fun i _ => ?_
    simp only [Function.comp, List.drop_drop]
    congr 2
    omega
theorem z0v {α : Type} : ∀ (t : List (List Nat)) (k : List Nat → List (List Nat) → α), (∀ a ∈ t, 2 ≤ a.length) → hdsC t k = k (t.flatMap fun a => [a.getD 0 0, a.getD 1 0]) (t.map fun a => a.drop 2)
  | [], k, _ => rfl
  | a :: t, k, h => by
    have ha := h a (List.mem_cons_self ..)
    match a, ha with
    | x :: y :: a, _ =>
      show hdsC t (fun c r => k (x :: y :: c) (a :: r)) = _
      rw [z0v t _ (fun a ha => h a (List.mem_cons_of_mem _ ha))]
      rfl
theorem zxx {α : Type} : ∀ (n : Nat) (t : List (List Nat)) (k : List (List Nat) → α), (∀ a ∈ t, 2 * n ≤ a.length) → trC n t k = k ((List.range n).map fun i => t.flatMap fun a => [a.getD (2 * i) 0, a.getD (2 * i + 1) 0])
  | 0, t, k, _ => rfl
  | n + 1, t, k, h => by
    show hdsC t (fun c t => trC n t fun r => k (c :: r)) = _
    rw [z0v t _ (fun a ha => by have := h a ha; omega), zxx n _ _ (by
      intro a ha
      obtain ⟨b, hb, rfl⟩ := List.mem_map.1 ha
      have := h b hb
      rw [List.length_drop]; omega), List.range_succ_eq_map, List.map_cons, List.map_map]
    congr 2
    refine List.map_congr_left fun i _ => ?_
    simp only [Function.comp]
    rw [List.flatMap_map]
    congr 1
    funext a
    have e : ∀ j, (a.drop 2).getD j 0 = a.getD (j + 2) 0 := fun j => by rw [List.getD_eq_getElem?_getD, List.getElem?_drop, ← List.getD_eq_getElem?_getD, Nat.add_comm]
    rw [e, e]
    rfl
theorem zpm {α : Type} {x y : List Nat} (k : List Nat → α) (hx : x.length = 128) (hy : y.length = 128) : zsa x y k = k (zhk x y) := by
  have hr := za0 hx hy
  unfold zsa zhk
  rw [zuf x y _ (by omega)]
  obtain ⟨r, hrr⟩ : ∃ r, List.zipWith xM x y = r := ⟨_, rfl⟩
  rw [hrr] at hr ⊢
  rw [z4u 8 r _ (by omega)]
  have hm := zty hr
  have l1 : ∀ a ∈ splitN r, a.length = 16 := by
    rw [zu3 hr]; intro a ha; obtain ⟨i, _, rfl⟩ := List.mem_map.1 ha; exact zqc _ _ _
  show smC (splitN r) _ = _
  rw [zx0 _ _ l1]
  have l2 : ∀ a ∈ (splitN r).map Jb, a.length = 16 := by
    intro a ha; obtain ⟨b, hb, rfl⟩ := List.mem_map.1 ha; rw [zjs]; exact l1 b hb
  rw [zxx 8 _ _ (fun a ha => by rw [l2 a ha]; omega)]
  show smC (trN ((splitN r).map Jb)) _ = _
  have l3 : ∀ a ∈ trN ((splitN r).map Jb), a.length = 16 := zxw (by simp [splitN])
  rw [zx0 _ _ l3]
  have l4 : ∀ a ∈ (trN ((splitN r).map Jb)).map Jb, a.length = 16 := by
    intro a ha; obtain ⟨b, hb, rfl⟩ := List.mem_map.1 ha; rw [zjs]; exact l3 b hb
  rw [zxx 8 _ _ (fun a ha => by rw [l4 a ha]; omega)]
  show flC (trN ((trN ((splitN r).map Jb)).map Jb)) _ = _
  rw [z6w, zuf _ _ _ (by rw [hm, hr]; exact Nat.le_refl _)]
end Go.Proofs.Ytfnfmbikooeiaaa
namespace Go.Proofs.Ytfnfmbikooeiaaa
open Go.Ax Go.Kn
noncomputable def hA (a b x : Nat) : Nat := aM a (Nat.add b x)
noncomputable def hB (a b c d x : Nat) : Nat := rx 24 40 b (aM c (rx 32 32 d (hA a b x)))
noncomputable def mA (a b c d x y : Nat) : Nat := aM (hA a b x) (Nat.add (hB a b c d x) y)
noncomputable def mD (a b c d x y : Nat) : Nat := rx 16 48 (rx 32 32 d (hA a b x)) (mA a b c d x y)
noncomputable def mC (a b c d x y : Nat) : Nat := aM (aM c (rx 32 32 d (hA a b x))) (mD a b c d x y)
noncomputable def mB (a b c d x y : Nat) : Nat := rx 63 1 (hB a b c d x) (mC a b c d x y)
theorem ylo {α : Type} (a b c d x y : Nat) (k : Nat → Nat → Nat → Nat → α) : gB a b c d x y k = k (mA a b c d x y) (mB a b c d x y) (mC a b c d x y) (mD a b c d x y) := by
  unfold gB
  simp only [zcw]
  rfl
noncomputable def zxq (l : List Nat) (a b x : Nat) : List Nat := l.set a (aM (l.getD a 0) (Nat.add (l.getD b 0) x))
noncomputable def zxr (l : List Nat) (a b : Nat) : List Nat := l.set a (aM (l.getD a 0) (l.getD b 0))
noncomputable def mixN (l : List Nat) (a b c d x y : Nat) : List Nat :=
  zfn 63 1 (zxr (zfn 16 48 (zxq (zfn 24 40 (zxr (zfn 32 32 (zxq l a b x) d a) c d) b c) a b y) d a) c d) b c
theorem z5x (l : List Nat) (a b c d x y : Nat) : (mixN l a b c d x y).length = l.length := by simp [mixN, zfn, zxq, zxr]
theorem z1p (x y : Nat) : IntKind.u64.wrap ((x : Int) + (y : Int)) = ((aM x y : Nat) : Int) := by
  rw [wrap_u64]
  show _ = (((x + y) % 18446744073709551616 : Nat) : Int)
  omega
theorem z1s (l : List Nat) (a b x : Nat) : addx (zc l) a b (x : Int) = zc (zxq l a b x) := by
  unfold addx zxq
  rw [Y1, Y1, ← Int.natCast_add, z1p, zte]; rfl
theorem z1u (l : List Nat) (a b : Nat) : addp (zc l) a b = zc (zxr l a b) := by unfold addp zxr; rw [Y1, Y1, z1p, zte]
theorem znv (n m : Nat) (l : List Nat) (z x : Nat) (hn : n + m = 64) (h1 : 1 ≤ n) (h2 : 1 ≤ m) : rotp (n : Int) (zc l) z x = zc (zfn n m l z x) := zki n m l z x hn h1 h2
theorem ycs (l : List Nat) (a b c d x y : Nat) : mixL (zc l) a b c d (x : Int) (y : Int) = zc (mixN l a b c d x y) := by
  have h1 := fun l z x => znv 32 32 l z x rfl (by decide) (by decide)
  have h2 := fun l z x => znv 24 40 l z x rfl (by decide) (by decide)
  have h3 := fun l z x => znv 16 48 l z x rfl (by decide) (by decide)
  have h4 := fun l z x => znv 63 1 l z x rfl (by decide) (by decide)
  simp only [Int.cast_ofNat_Int] at h1 h2 h3 h4
  unfold mixL mixN
  rw [z1s, h1, z1u, h2, z1s, h3, z1u, h4]
theorem ylj (v0 v1 v2 v3 v4 v5 v6 v7 v8 v9 v10 v11 v12 v13 v14 v15 x y : Nat) : mixN [v0, v1, v2, v3, v4, v5, v6, v7, v8, v9, v10, v11, v12, v13, v14, v15] 0 4 8 12 x y = [mA v0 v4 v8 v12 x y, v1, v2, v3, mB v0 v4 v8 v12 x y, v5, v6, v7, mC v0 v4 v8 v12 x y, v9, v10, v11, mD v0 v4 v8 v12 x y, v13, v14, v15] := rfl
theorem yli (v0 v1 v2 v3 v4 v5 v6 v7 v8 v9 v10 v11 v12 v13 v14 v15 x y : Nat) : mixN [v0, v1, v2, v3, v4, v5, v6, v7, v8, v9, v10, v11, v12, v13, v14, v15] 1 5 9 13 x y = [v0, mA v1 v5 v9 v13 x y, v2, v3, v4, mB v1 v5 v9 v13 x y, v6, v7, v8, mC v1 v5 v9 v13 x y, v10, v11, v12, mD v1 v5 v9 v13 x y, v14, v15] := rfl
theorem ylh (v0 v1 v2 v3 v4 v5 v6 v7 v8 v9 v10 v11 v12 v13 v14 v15 x y : Nat) : mixN [v0, v1, v2, v3, v4, v5, v6, v7, v8, v9, v10, v11, v12, v13, v14, v15] 2 6 10 14 x y = [v0, v1, mA v2 v6 v10 v14 x y, v3, v4, v5, mB v2 v6 v10 v14 x y, v7, v8, v9, mC v2 v6 v10 v14 x y, v11, v12, v13, mD v2 v6 v10 v14 x y, v15] := rfl
theorem ylg (v0 v1 v2 v3 v4 v5 v6 v7 v8 v9 v10 v11 v12 v13 v14 v15 x y : Nat) : mixN [v0, v1, v2, v3, v4, v5, v6, v7, v8, v9, v10, v11, v12, v13, v14, v15] 3 7 11 15 x y = [v0, v1, v2, mA v3 v7 v11 v15 x y, v4, v5, v6, mB v3 v7 v11 v15 x y, v8, v9, v10, mC v3 v7 v11 v15 x y, v12, v13, v14, mD v3 v7 v11 v15 x y] := rfl
theorem ylf (v0 v1 v2 v3 v4 v5 v6 v7 v8 v9 v10 v11 v12 v13 v14 v15 x y : Nat) : mixN [v0, v1, v2, v3, v4, v5, v6, v7, v8, v9, v10, v11, v12, v13, v14, v15] 0 5 10 15 x y = [mA v0 v5 v10 v15 x y, v1, v2, v3, v4, mB v0 v5 v10 v15 x y, v6, v7, v8, v9, mC v0 v5 v10 v15 x y, v11, v12, v13, v14, mD v0 v5 v10 v15 x y] := rfl
theorem yle (v0 v1 v2 v3 v4 v5 v6 v7 v8 v9 v10 v11 v12 v13 v14 v15 x y : Nat) : mixN [v0, v1, v2, v3, v4, v5, v6, v7, v8, v9, v10, v11, v12, v13, v14, v15] 1 6 11 12 x y = [v0, mA v1 v6 v11 v12 x y, v2, v3, v4, v5, mB v1 v6 v11 v12 x y, v7, v8, v9, v10, mC v1 v6 v11 v12 x y, mD v1 v6 v11 v12 x y, v13, v14, v15] := rfl
theorem yld (v0 v1 v2 v3 v4 v5 v6 v7 v8 v9 v10 v11 v12 v13 v14 v15 x y : Nat) : mixN [v0, v1, v2, v3, v4, v5, v6, v7, v8, v9, v10, v11, v12, v13, v14, v15] 2 7 8 13 x y = [v0, v1, mA v2 v7 v8 v13 x y, v3, v4, v5, v6, mB v2 v7 v8 v13 x y, mC v2 v7 v8 v13 x y, v9, v10, v11, v12, mD v2 v7 v8 v13 x y, v14, v15] := rfl
theorem ylc (v0 v1 v2 v3 v4 v5 v6 v7 v8 v9 v10 v11 v12 v13 v14 v15 x y : Nat) : mixN [v0, v1, v2, v3, v4, v5, v6, v7, v8, v9, v10, v11, v12, v13, v14, v15] 3 4 9 14 x y = [v0, v1, v2, mA v3 v4 v9 v14 x y, mB v3 v4 v9 v14 x y, v5, v6, v7, v8, mC v3 v4 v9 v14 x y, v10, v11, v12, v13, mD v3 v4 v9 v14 x y, v15] := rfl
noncomputable def rndN (l : List Nat) (s0 s1 s2 s3 s4 s5 s6 s7 s8 s9 s10 s11 s12 s13 s14 s15 : Nat) : List Nat := mixN (mixN (mixN (mixN (mixN (mixN (mixN (mixN (l) 0 4 8 12 s0 s1) 1 5 9 13 s2 s3) 2 6 10 14 s4 s5) 3 7 11 15 s6 s7) 0 5 10 15 s8 s9) 1 6 11 12 s10 s11) 2 7 8 13 s12 s13) 3 4 9 14 s14 s15
theorem zab (l : List Nat) (s0 s1 s2 s3 s4 s5 s6 s7 s8 s9 s10 s11 s12 s13 s14 s15 : Nat) : (rndN l s0 s1 s2 s3 s4 s5 s6 s7 s8 s9 s10 s11 s12 s13 s14 s15).length = l.length := by simp only [rndN, z5x]
theorem zbx {α : Type} (v0 v1 v2 v3 v4 v5 v6 v7 v8 v9 v10 v11 v12 v13 v14 v15 s0 s1 s2 s3 s4 s5 s6 s7 s8 s9 s10 s11 s12 s13 s14 s15 : Nat) (k : Nat → Nat → Nat → Nat → Nat → Nat → Nat → Nat → Nat → Nat → Nat → Nat → Nat → Nat → Nat → Nat → α) : rnd v0 v1 v2 v3 v4 v5 v6 v7 v8 v9 v10 v11 v12 v13 v14 v15 s0 s1 s2 s3 s4 s5 s6 s7 s8 s9 s10 s11 s12 s13 s14 s15 k = k ((rndN [v0, v1, v2, v3, v4, v5, v6, v7, v8, v9, v10, v11, v12, v13, v14, v15] s0 s1 s2 s3 s4 s5 s6 s7 s8 s9 s10 s11 s12 s13 s14 s15).getD 0 0) ((rndN [v0, v1, v2, v3, v4, v5, v6, v7, v8, v9, v10, v11, v12, v13, v14, v15] s0 s1 s2 s3 s4 s5 s6 s7 s8 s9 s10 s11 s12 s13 s14 s15).getD 1 0) ((rndN [v0, v1, v2, v3, v4, v5, v6, v7, v8, v9, v10, v11, v12, v13, v14, v15] s0 s1 s2 s3 s4 s5 s6 s7 s8 s9 s10 s11 s12 s13 s14 s15).getD 2 0) ((rndN [v0, v1, v2, v3, v4, v5, v6, v7, v8, v9, v10, v11, v12, v13, v14, v15] s0 s1 s2 s3 s4 s5 s6 s7 s8 s9 s10 s11 s12 s13 s14 s15).getD 3 0) ((rndN [v0, v1, v2, v3, v4, v5, v6, v7, v8, v9, v10, v11, v12, v13, v14, v15] s0 s1 s2 s3 s4 s5 s6 s7 s8 s9 s10 s11 s12 s13 s14 s15).getD 4 0) ((rndN [v0, v1, v2, v3, v4, v5, v6, v7, v8, v9, v10, v11, v12, v13, v14, v15] s0 s1 s2 s3 s4 s5 s6 s7 s8 s9 s10 s11 s12 s13 s14 s15).getD 5 0) ((rndN [v0, v1, v2, v3, v4, v5, v6, v7, v8, v9, v10, v11, v12, v13, v14, v15] s0 s1 s2 s3 s4 s5 s6 s7 s8 s9 s10 s11 s12 s13 s14 s15).getD 6 0) ((rndN [v0, v1, v2, v3, v4, v5, v6, v7, v8, v9, v10, v11, v12, v13, v14, v15] s0 s1 s2 s3 s4 s5 s6 s7 s8 s9 s10 s11 s12 s13 s14 s15).getD 7 0) ((rndN [v0, v1, v2, v3, v4, v5, v6, v7, v8, v9, v10, v11, v12, v13, v14, v15] s0 s1 s2 s3 s4 s5 s6 s7 s8 s9 s10 s11 s12 s13 s14 s15).getD 8 0) ((rndN [v0, v1, v2, v3, v4, v5, v6, v7, v8, v9, v10, v11, v12, v13, v14, v15] s0 s1 s2 s3 s4 s5 s6 s7 s8 s9 s10 s11 s12 s13 s14 s15).getD 9 0) ((rndN [v0, v1, v2, v3, v4, v5, v6, v7, v8, v9, v10, v11, v12, v13, v14, v15] s0 s1 s2 s3 s4 s5 s6 s7 s8 s9 s10 s11 s12 s13 s14 s15).getD 10 0) ((rndN [v0, v1, v2, v3, v4, v5, v6, v7, v8, v9, v10, v11, v12, v13, v14, v15] s0 s1 s2 s3 s4 s5 s6 s7 s8 s9 s10 s11 s12 s13 s14 s15).getD 11 0) ((rndN [v0, v1, v2, v3, v4, v5, v6, v7, v8, v9, v10, v11, v12, v13, v14, v15] s0 s1 s2 s3 s4 s5 s6 s7 s8 s9 s10 s11 s12 s13 s14 s15).getD 12 0) ((rndN [v0, v1, v2, v3, v4, v5, v6, v7, v8, v9, v10, v11, v12, v13, v14, v15] s0 s1 s2 s3 s4 s5 s6 s7 s8 s9 s10 s11 s12 s13 s14 s15).getD 13 0) ((rndN [v0, v1, v2, v3, v4, v5, v6, v7, v8, v9, v10, v11, v12, v13, v14, v15] s0 s1 s2 s3 s4 s5 s6 s7 s8 s9 s10 s11 s12 s13 s14 s15).getD 14 0) ((rndN [v0, v1, v2, v3, v4, v5, v6, v7, v8, v9, v10, v11, v12, v13, v14, v15] s0 s1 s2 s3 s4 s5 s6 s7 s8 s9 s10 s11 s12 s13 s14 s15).getD 15 0) := by
  unfold rnd rndN
  simp only [ylo, ylj, yli, ylh, ylg, ylf, yle, yld, ylc, List.getD_cons_zero, List.getD_cons_succ]
theorem zhu {l : List Nat} (h : l.length = 16) : [l.getD 0 0, l.getD 1 0, l.getD 2 0, l.getD 3 0, l.getD 4 0, l.getD 5 0, l.getD 6 0, l.getD 7 0, l.getD 8 0, l.getD 9 0, l.getD 10 0, l.getD 11 0, l.getD 12 0, l.getD 13 0, l.getD 14 0, l.getD 15 0] = l := by
  obtain ⟨v0, v1, v2, v3, v4, v5, v6, v7, v8, v9, v10, v11, v12, v13, v14, v15, rfl⟩ := ex16 h
  rfl
def sg (r j : Nat) : Nat := Jh.getD (16 * (r % 10) + j) 0
noncomputable def allN (ws l : List Nat) : Nat → List Nat
  | 0 => l
  | r + 1 => rndN (allN ws l r) (ws.getD (sg r 0) 0) (ws.getD (sg r 1) 0) (ws.getD (sg r 2) 0) (ws.getD (sg r 3) 0) (ws.getD (sg r 4) 0) (ws.getD (sg r 5) 0) (ws.getD (sg r 6) 0) (ws.getD (sg r 7) 0) (ws.getD (sg r 8) 0) (ws.getD (sg r 9) 0) (ws.getD (sg r 10) 0) (ws.getD (sg r 11) 0) (ws.getD (sg r 12) 0) (ws.getD (sg r 13) 0) (ws.getD (sg r 14) 0) (ws.getD (sg r 15) 0)
theorem zxo (ws l : List Nat) : ∀ r, (allN ws l r).length = l.length
  | 0 => rfl
  | r + 1 => by simp only [allN, zab]; exact zxo ws l r
theorem z2p (w v : List Int) (r : Nat) : Y8 w v r 8 = mixL (mixL (mixL (mixL (mixL (mixL (mixL (mixL (v) 0 4 8 12 (w.getD (sg r 0) 0) (w.getD (sg r 1) 0)) 1 5 9 13 (w.getD (sg r 2) 0) (w.getD (sg r 3) 0)) 2 6 10 14 (w.getD (sg r 4) 0) (w.getD (sg r 5) 0)) 3 7 11 15 (w.getD (sg r 6) 0) (w.getD (sg r 7) 0)) 0 5 10 15 (w.getD (sg r 8) 0) (w.getD (sg r 9) 0)) 1 6 11 12 (w.getD (sg r 10) 0) (w.getD (sg r 11) 0)) 2 7 8 13 (w.getD (sg r 12) 0) (w.getD (sg r 13) 0)) 3 4 9 14 (w.getD (sg r 14) 0) (w.getD (sg r 15) 0) := rfl
theorem z5f (ws l : List Nat) (r : Nat) : Y8 (zc ws) (zc l) r 8 = zc (rndN l (ws.getD (sg r 0) 0) (ws.getD (sg r 1) 0) (ws.getD (sg r 2) 0) (ws.getD (sg r 3) 0) (ws.getD (sg r 4) 0) (ws.getD (sg r 5) 0) (ws.getD (sg r 6) 0) (ws.getD (sg r 7) 0) (ws.getD (sg r 8) 0) (ws.getD (sg r 9) 0) (ws.getD (sg r 10) 0) (ws.getD (sg r 11) 0) (ws.getD (sg r 12) 0) (ws.getD (sg r 13) 0) (ws.getD (sg r 14) 0) (ws.getD (sg r 15) 0)) := by
  rw [z2p]
  simp only [Y1, ycs]
  rfl
theorem z75 (ws l : List Nat) : ∀ r, Qc (zc ws) (zc l) r = zc (allN ws l r)
  | 0 => rfl
  | r + 1 => by
    simp only [Qc, allN]
    rw [z75 ws l r, z5f]
theorem zve {α : Type} (v0 v1 v2 v3 v4 v5 v6 v7 v8 v9 v10 v11 v12 v13 v14 v15 m0 m1 m2 m3 m4 m5 m6 m7 m8 m9 m10 m11 m12 m13 m14 m15 : Nat) (k : Nat → Nat → Nat → Nat → Nat → Nat → Nat → Nat → Nat → Nat → Nat → Nat → Nat → Nat → Nat → Nat → α) : ztp v0 v1 v2 v3 v4 v5 v6 v7 v8 v9 v10 v11 v12 v13 v14 v15 m0 m1 m2 m3 m4 m5 m6 m7 m8 m9 m10 m11 m12 m13 m14 m15 k = k ((allN [m0, m1, m2, m3, m4, m5, m6, m7, m8, m9, m10, m11, m12, m13, m14, m15] [v0, v1, v2, v3, v4, v5, v6, v7, v8, v9, v10, v11, v12, v13, v14, v15] 12).getD 0 0) ((allN [m0, m1, m2, m3, m4, m5, m6, m7, m8, m9, m10, m11, m12, m13, m14, m15] [v0, v1, v2, v3, v4, v5, v6, v7, v8, v9, v10, v11, v12, v13, v14, v15] 12).getD 1 0) ((allN [m0, m1, m2, m3, m4, m5, m6, m7, m8, m9, m10, m11, m12, m13, m14, m15] [v0, v1, v2, v3, v4, v5, v6, v7, v8, v9, v10, v11, v12, v13, v14, v15] 12).getD 2 0) ((allN [m0, m1, m2, m3, m4, m5, m6, m7, m8, m9, m10, m11, m12, m13, m14, m15] [v0, v1, v2, v3, v4, v5, v6, v7, v8, v9, v10, v11, v12, v13, v14, v15] 12).getD 3 0) ((allN [m0, m1, m2, m3, m4, m5, m6, m7, m8, m9, m10, m11, m12, m13, m14, m15] [v0, v1, v2, v3, v4, v5, v6, v7, v8, v9, v10, v11, v12, v13, v14, v15] 12).getD 4 0) ((allN [m0, m1, m2, m3, m4, m5, m6, m7, m8, m9, m10, m11, m12, m13, m14, m15] [v0, v1, v2, v3, v4, v5, v6, v7, v8, v9, v10, v11, v12, v13, v14, v15] 12).getD 5 0) ((allN [m0, m1, m2, m3, m4, m5, m6, m7, m8, m9, m10, m11, m12, m13, m14, m15] [v0, v1, v2, v3, v4, v5, v6, v7, v8, v9, v10, v11, v12, v13, v14, v15] 12).getD 6 0) ((allN [m0, m1, m2, m3, m4, m5, m6, m7, m8, m9, m10, m11, m12, m13, m14, m15] [v0, v1, v2, v3, v4, v5, v6, v7, v8, v9, v10, v11, v12, v13, v14, v15] 12).getD 7 0) ((allN [m0, m1, m2, m3, m4, m5, m6, m7, m8, m9, m10, m11, m12, m13, m14, m15] [v0, v1, v2, v3, v4, v5, v6, v7, v8, v9, v10, v11, v12, v13, v14, v15] 12).getD 8 0) ((allN [m0, m1, m2, m3, m4, m5, m6, m7, m8, m9, m10, m11, m12, m13, m14, m15] [v0, v1, v2, v3, v4, v5, v6, v7, v8, v9, v10, v11, v12, v13, v14, v15] 12).getD 9 0) ((allN [m0, m1, m2, m3, m4, m5, m6, m7, m8, m9, m10, m11, m12, m13, m14, m15] [v0, v1, v2, v3, v4, v5, v6, v7, v8, v9, v10, v11, v12, v13, v14, v15] 12).getD 10 0) ((allN [m0, m1, m2, m3, m4, m5, m6, m7, m8, m9, m10, m11, m12, m13, m14, m15] [v0, v1, v2, v3, v4, v5, v6, v7, v8, v9, v10, v11, v12, v13, v14, v15] 12).getD 11 0) ((allN [m0, m1, m2, m3, m4, m5, m6, m7, m8, m9, m10, m11, m12, m13, m14, m15] [v0, v1, v2, v3, v4, v5, v6, v7, v8, v9, v10, v11, v12, v13, v14, v15] 12).getD 12 0) ((allN [m0, m1, m2, m3, m4, m5, m6, m7, m8, m9, m10, m11, m12, m13, m14, m15] [v0, v1, v2, v3, v4, v5, v6, v7, v8, v9, v10, v11, v12, v13, v14, v15] 12).getD 13 0) ((allN [m0, m1, m2, m3, m4, m5, m6, m7, m8, m9, m10, m11, m12, m13, m14, m15] [v0, v1, v2, v3, v4, v5, v6, v7, v8, v9, v10, v11, v12, v13, v14, v15] 12).getD 14 0) ((allN [m0, m1, m2, m3, m4, m5, m6, m7, m8, m9, m10, m11, m12, m13, m14, m15] [v0, v1, v2, v3, v4, v5, v6, v7, v8, v9, v10, v11, v12, v13, v14, v15] 12).getD 15 0) := by
  unfold ztp
  have a0 : allN [m0, m1, m2, m3, m4, m5, m6, m7, m8, m9, m10, m11, m12, m13, m14, m15] [v0, v1, v2, v3, v4, v5, v6, v7, v8, v9, v10, v11, v12, v13, v14, v15] 0 = [v0, v1, v2, v3, v4, v5, v6, v7, v8, v9, v10, v11, v12, v13, v14, v15] := rfl
  obtain ⟨l0, h0⟩ : ∃ l0, l0 = [v0, v1, v2, v3, v4, v5, v6, v7, v8, v9, v10, v11, v12, v13, v14, v15] := ⟨_, rfl⟩
  have e0 : l0.length = 16 := by rw [h0]; rfl
  rw [← h0] at a0 ⊢
  rw [zbx, ← h0]
  obtain ⟨l1, h1⟩ : ∃ l1, l1 = rndN l0 m0 m1 m2 m3 m4 m5 m6 m7 m8 m9 m10 m11 m12 m13 m14 m15 := ⟨_, rfl⟩
  have e1 : l1.length = 16 := by rw [h1, zab, e0]
  rw [← h1]
  have a1 : allN [m0, m1, m2, m3, m4, m5, m6, m7, m8, m9, m10, m11, m12, m13, m14, m15] l0 1 = l1 := by
    show rndN (allN [m0, m1, m2, m3, m4, m5, m6, m7, m8, m9, m10, m11, m12, m13, m14, m15] l0 0) m0 m1 m2 m3 m4 m5 m6 m7 m8 m9 m10 m11 m12 m13 m14 m15 = _
    rw [a0, h1]
  rw [zbx, zhu e1]
  obtain ⟨l2, h2⟩ : ∃ l2, l2 = rndN l1 m14 m10 m4 m8 m9 m15 m13 m6 m1 m12 m0 m2 m11 m7 m5 m3 := ⟨_, rfl⟩
  have e2 : l2.length = 16 := by rw [h2, zab, e1]
  rw [← h2]
  have a2 : allN [m0, m1, m2, m3, m4, m5, m6, m7, m8, m9, m10, m11, m12, m13, m14, m15] l0 2 = l2 := by
    show rndN (allN [m0, m1, m2, m3, m4, m5, m6, m7, m8, m9, m10, m11, m12, m13, m14, m15] l0 1) m14 m10 m4 m8 m9 m15 m13 m6 m1 m12 m0 m2 m11 m7 m5 m3 = _
    rw [a1, h2]
  rw [zbx, zhu e2]
  obtain ⟨l3, h3⟩ : ∃ l3, l3 = rndN l2 m11 m8 m12 m0 m5 m2 m15 m13 m10 m14 m3 m6 m7 m1 m9 m4 := ⟨_, rfl⟩
  have e3 : l3.length = 16 := by rw [h3, zab, e2]
  rw [← h3]
  have a3 : allN [m0, m1, m2, m3, m4, m5, m6, m7, m8, m9, m10, m11, m12, m13, m14, m15] l0 3 = l3 := by
    show rndN (allN [m0, m1, m2, m3, m4, m5, m6, m7, m8, m9, m10, m11, m12, m13, m14, m15] l0 2) m11 m8 m12 m0 m5 m2 m15 m13 m10 m14 m3 m6 m7 m1 m9 m4 = _
    rw [a2, h3]
  rw [zbx, zhu e3]
  obtain ⟨l4, h4⟩ : ∃ l4, l4 = rndN l3 m7 m9 m3 m1 m13 m12 m11 m14 m2 m6 m5 m10 m4 m0 m15 m8 := ⟨_, rfl⟩
  have e4 : l4.length = 16 := by rw [h4, zab, e3]
  rw [← h4]
  have a4 : allN [m0, m1, m2, m3, m4, m5, m6, m7, m8, m9, m10, m11, m12, m13, m14, m15] l0 4 = l4 := by
    show rndN (allN [m0, m1, m2, m3, m4, m5, m6, m7, m8, m9, m10, m11, m12, m13, m14, m15] l0 3) m7 m9 m3 m1 m13 m12 m11 m14 m2 m6 m5 m10 m4 m0 m15 m8 = _
    rw [a3, h4]
  rw [zbx, zhu e4]
  obtain ⟨l5, h5⟩ : ∃ l5, l5 = rndN l4 m9 m0 m5 m7 m2 m4 m10 m15 m14 m1 m11 m12 m6 m8 m3 m13 := ⟨_, rfl⟩
  have e5 : l5.length = 16 := by rw [h5, zab, e4]
  rw [← h5]
  have a5 : allN [m0, m1, m2, m3, m4, m5, m6, m7, m8, m9, m10, m11, m12, m13, m14, m15] l0 5 = l5 := by
    show rndN (allN [m0, m1, m2, m3, m4, m5, m6, m7, m8, m9, m10, m11, m12, m13, m14, m15] l0 4) m9 m0 m5 m7 m2 m4 m10 m15 m14 m1 m11 m12 m6 m8 m3 m13 = _
    rw [a4, h5]
  rw [zbx, zhu e5]
  obtain ⟨l6, h6⟩ : ∃ l6, l6 = rndN l5 m2 m12 m6 m10 m0 m11 m8 m3 m4 m13 m7 m5 m15 m14 m1 m9 := ⟨_, rfl⟩
  have e6 : l6.length = 16 := by rw [h6, zab, e5]
  rw [← h6]
  have a6 : allN [m0, m1, m2, m3, m4, m5, m6, m7, m8, m9, m10, m11, m12, m13, m14, m15] l0 6 = l6 := by
    show rndN (allN [m0, m1, m2, m3, m4, m5, m6, m7, m8, m9, m10, m11, m12, m13, m14, m15] l0 5) m2 m12 m6 m10 m0 m11 m8 m3 m4 m13 m7 m5 m15 m14 m1 m9 = _
    rw [a5, h6]
  rw [zbx, zhu e6]
  obtain ⟨l7, h7⟩ : ∃ l7, l7 = rndN l6 m12 m5 m1 m15 m14 m13 m4 m10 m0 m7 m6 m3 m9 m2 m8 m11 := ⟨_, rfl⟩
  have e7 : l7.length = 16 := by rw [h7, zab, e6]
  rw [← h7]
  have a7 : allN [m0, m1, m2, m3, m4, m5, m6, m7, m8, m9, m10, m11, m12, m13, m14, m15] l0 7 = l7 := by
    show rndN (allN [m0, m1, m2, m3, m4, m5, m6, m7, m8, m9, m10, m11, m12, m13, m14, m15] l0 6) m12 m5 m1 m15 m14 m13 m4 m10 m0 m7 m6 m3 m9 m2 m8 m11 = _
    rw [a6, h7]
  rw [zbx, zhu e7]
  obtain ⟨l8, h8⟩ : ∃ l8, l8 = rndN l7 m13 m11 m7 m14 m12 m1 m3 m9 m5 m0 m15 m4 m8 m6 m2 m10 := ⟨_, rfl⟩
  have e8 : l8.length = 16 := by rw [h8, zab, e7]
  rw [← h8]
  have a8 : allN [m0, m1, m2, m3, m4, m5, m6, m7, m8, m9, m10, m11, m12, m13, m14, m15] l0 8 = l8 := by
    show rndN (allN [m0, m1, m2, m3, m4, m5, m6, m7, m8, m9, m10, m11, m12, m13, m14, m15] l0 7) m13 m11 m7 m14 m12 m1 m3 m9 m5 m0 m15 m4 m8 m6 m2 m10 = _
    rw [a7, h8]
  rw [zbx, zhu e8]
  obtain ⟨l9, h9⟩ : ∃ l9, l9 = rndN l8 m6 m15 m14 m9 m11 m3 m0 m8 m12 m2 m13 m7 m1 m4 m10 m5 := ⟨_, rfl⟩
  have e9 : l9.length = 16 := by rw [h9, zab, e8]
  rw [← h9]
  have a9 : allN [m0, m1, m2, m3, m4, m5, m6, m7, m8, m9, m10, m11, m12, m13, m14, m15] l0 9 = l9 := by
    show rndN (allN [m0, m1, m2, m3, m4, m5, m6, m7, m8, m9, m10, m11, m12, m13, m14, m15] l0 8) m6 m15 m14 m9 m11 m3 m0 m8 m12 m2 m13 m7 m1 m4 m10 m5 = _
    rw [a8, h9]
  rw [zbx, zhu e9]
  obtain ⟨l10, h10⟩ : ∃ l10, l10 = rndN l9 m10 m2 m8 m4 m7 m6 m1 m5 m15 m11 m9 m14 m3 m12 m13 m0 := ⟨_, rfl⟩
  have e10 : l10.length = 16 := by rw [h10, zab, e9]
  rw [← h10]
  have a10 : allN [m0, m1, m2, m3, m4, m5, m6, m7, m8, m9, m10, m11, m12, m13, m14, m15] l0 10 = l10 := by
    show rndN (allN [m0, m1, m2, m3, m4, m5, m6, m7, m8, m9, m10, m11, m12, m13, m14, m15] l0 9) m10 m2 m8 m4 m7 m6 m1 m5 m15 m11 m9 m14 m3 m12 m13 m0 = _
    rw [a9, h10]
  rw [zbx, zhu e10]
  obtain ⟨l11, h11⟩ : ∃ l11, l11 = rndN l10 m0 m1 m2 m3 m4 m5 m6 m7 m8 m9 m10 m11 m12 m13 m14 m15 := ⟨_, rfl⟩
  have e11 : l11.length = 16 := by rw [h11, zab, e10]
  rw [← h11]
  have a11 : allN [m0, m1, m2, m3, m4, m5, m6, m7, m8, m9, m10, m11, m12, m13, m14, m15] l0 11 = l11 := by
    show rndN (allN [m0, m1, m2, m3, m4, m5, m6, m7, m8, m9, m10, m11, m12, m13, m14, m15] l0 10) m0 m1 m2 m3 m4 m5 m6 m7 m8 m9 m10 m11 m12 m13 m14 m15 = _
    rw [a10, h11]
  rw [zbx, zhu e11]
  obtain ⟨l12, h12⟩ : ∃ l12, l12 = rndN l11 m14 m10 m4 m8 m9 m15 m13 m6 m1 m12 m0 m2 m11 m7 m5 m3 := ⟨_, rfl⟩
  have e12 : l12.length = 16 := by rw [h12, zab, e11]
  rw [← h12]
  have a12 : allN [m0, m1, m2, m3, m4, m5, m6, m7, m8, m9, m10, m11, m12, m13, m14, m15] l0 12 = l12 := by
    show rndN (allN [m0, m1, m2, m3, m4, m5, m6, m7, m8, m9, m10, m11, m12, m13, m14, m15] l0 11) m14 m10 m4 m8 m9 m15 m13 m6 m1 m12 m0 m2 m11 m7 m5 m3 = _
    rw [a11, h12]
  rw [a12]
theorem ex8 {l : List Nat} (h : l.length = 8) : ∃ v0 v1 v2 v3 v4 v5 v6 v7, l = [v0, v1, v2, v3, v4, v5, v6, v7] := by
  match l, h with
  | [v0, v1, v2, v3, v4, v5, v6, v7], _ => exact ⟨v0, v1, v2, v3, v4, v5, v6, v7, rfl⟩
noncomputable def wd (l : List Nat) (i : Nat) : Nat := leK (fun m => l.getD (i + m) 0) 8
noncomputable def Q2 (n : Nat) (l : List Nat) : List Nat := (List.range n).map fun j => wd l (8 * j)
theorem zgb (n : Nat) (l : List Nat) : (Q2 n l).length = n := by unfold Q2; rw [List.length_map, List.length_range]
theorem zq8 (n : Nat) (l : List Nat) (j : Nat) (h : j < n) : (Q2 n l).getD j 0 = wd l (8 * j) := by unfold Q2; exact zk2 n _ j h
theorem ylm {α : Type} (l : List Nat) (k : Nat → List Nat → α) : hd l k = k (l.getD 0 0) (l.drop 1) := by cases l <;> rfl
theorem drop_at (l : List Nat) (i j : Nat) : (l.drop i).getD j 0 = l.getD (i + j) 0 := by rw [List.getD_eq_getElem?_getD, List.getElem?_drop, ← List.getD_eq_getElem?_getD]
theorem z8b (l : List Nat) (i j : Nat) : wd (l.drop i) j = wd l (i + j) := by
  unfold wd
  simp only [drop_at, Nat.add_assoc]
theorem z30 {α : Type} (l : List Nat) (k : Nat → List Nat → α) : zzt l k = k (wd l 0) (l.drop 8) := by
  unfold zzt wd
  rw [ylk]
  simp only [ylm, zcw, List.drop_drop, drop_at, Nat.add_eq, Nat.mul_eq, Nat.reduceAdd, Nat.zero_add]
theorem zuh {α : Type} (n : Nat) (l : List Nat) (k : List Nat → α) : zof (n + 1) l k = zzt l (fun w l => zof n l fun t => k (w :: t)) := rfl
theorem zug (n : Nat) (l : List Nat) : Q2 (n + 1) l = wd l 0 :: Q2 n (l.drop 8) := by
  unfold Q2
  rw [List.range_succ_eq_map, List.map_cons, List.map_map, Nat.mul_zero]
  have h1 : ((fun j => wd l (8 * j)) ∘ Nat.succ) = fun j => wd (l.drop 8) (8 * j) := by
    funext j
    rw [z8b, Function.comp, show 8 * Nat.succ j = 8 + 8 * j by omega]
  rw [h1]
theorem zq9 {α : Type} (n : Nat) : ∀ (l : List Nat) (k : List Nat → α), zof n l k = k (Q2 n l) := by
  induction n with
  | zero => intro l k; rfl
  | succ n ih =>
    intro l k
    rw [zuh, z30, ih, zug]
def BtN (l : List Nat) : Prop := ∀ i, l.getD i 0 < 256
theorem BtN.bts {l : List Nat} (h : BtN l) : Bts (zc l) := fun i => by rw [Y1]; have := h i; omega
theorem z59 (l : List Nat) (j : Nat) : leK (fun m => ((zc l).getD (8 * j + m) 0).toNat) 8 = wd l (8 * j) := by
  unfold wd
  simp only [Y1, Int.toNat_natCast]
theorem zq2 {b : List Nat} (hb : BtN b) : Qw (zc b) 1024 = zc (Q2 128 b) := by
  refine extD (by rw [Jg, J9, zgb]) ?_
  intro j hj
  rw [Jg] at hj
  have h := zkq (zc b) hb.bts 128 (by omega) j hj
  rw [if_pos hj, z59] at h
  refine h.trans ?_
  rw [Y1, zq8 128 b j hj]
theorem zoe (p : List Int) : ∀ i, i ≤ 128 → wordsAt p i = (Qw p i).take 16
  | 0, _ => rfl
  | i + 1, h => by
    simp only [wordsAt, Qw, zgx]
    rw [zoe p i (by omega), List.take_set]
    have e : ((Qw p i).take 16).getD (i / 8) 0 = (Qw p i).getD (i / 8) 0 := by
      rw [List.getD_eq_getElem?_getD, List.getElem?_take, if_pos (by omega), ← List.getD_eq_getElem?_getD]
    rw [e]
theorem z3z {b : List Nat} (hb : BtN b) : wordsAt (zc b) 128 = zc (Q2 16 b) := by
  rw [zoe _ 128 (Nat.le_refl _)]
  refine extD (by rw [List.length_take, Jg, J9, zgb]; rfl) ?_
  intro j hj
  have hj : j < 16 := by rw [List.length_take, Jg] at hj; omega
  have h := zkq (zc b) hb.bts 16 (by omega) j (by omega)
  rw [if_pos hj, z59] at h
  rw [List.getD_eq_getElem?_getD, List.getElem?_take, if_pos hj, ← List.getD_eq_getElem?_getD]
  refine h.trans ?_
  rw [Y1, zq8 16 b j hj]
noncomputable def vN (h : List Nat) (t x : Nat) : List Nat := [h.getD 0 0, h.getD 1 0, h.getD 2 0, h.getD 3 0, h.getD 4 0, h.getD 5 0, h.getD 6 0, h.getD 7 0, 7640891576956012808, 13503953896175478587, 4354685564936845355, 11912009170470909681, xM 5840696475078001361 t, 11170449401992604703, xM x 2270897969802886507, 6620516959819538809]
noncomputable def zfg (h p : List Nat) (t x : Nat) : List Nat := [xM (h.getD 0 0) (xM ((allN (Q2 16 p) (vN h t x) 12).getD 0 0) ((allN (Q2 16 p) (vN h t x) 12).getD 8 0)), xM (h.getD 1 0) (xM ((allN (Q2 16 p) (vN h t x) 12).getD 1 0) ((allN (Q2 16 p) (vN h t x) 12).getD 9 0)), xM (h.getD 2 0) (xM ((allN (Q2 16 p) (vN h t x) 12).getD 2 0) ((allN (Q2 16 p) (vN h t x) 12).getD 10 0)), xM (h.getD 3 0) (xM ((allN (Q2 16 p) (vN h t x) 12).getD 3 0) ((allN (Q2 16 p) (vN h t x) 12).getD 11 0)), xM (h.getD 4 0) (xM ((allN (Q2 16 p) (vN h t x) 12).getD 4 0) ((allN (Q2 16 p) (vN h t x) 12).getD 12 0)), xM (h.getD 5 0) (xM ((allN (Q2 16 p) (vN h t x) 12).getD 5 0) ((allN (Q2 16 p) (vN h t x) 12).getD 13 0)), xM (h.getD 6 0) (xM ((allN (Q2 16 p) (vN h t x) 12).getD 6 0) ((allN (Q2 16 p) (vN h t x) 12).getD 14 0)), xM (h.getD 7 0) (xM ((allN (Q2 16 p) (vN h t x) 12).getD 7 0) ((allN (Q2 16 p) (vN h t x) 12).getD 15 0))]
theorem zgj (h p : List Nat) (t x : Nat) : (zfg h p t x).length = 8 := rfl
theorem zr7 {α : Type} {h : List Nat} (p : List Nat) (t x : Nat) (k : List Nat → α) (hh : h.length = 8) : zmc h p t x k = k (zfg h p t x) := by
  obtain ⟨h0, h1, h2, h3, h4, h5, h6, h7, rfl⟩ := ex8 hh
  unfold zmc
  rw [zq9]
  obtain ⟨m0, m1, m2, m3, m4, m5, m6, m7, m8, m9, m10, m11, m12, m13, m14, m15, hw⟩ := ex16 (zgb 16 p)
  have e : zfg [h0, h1, h2, h3, h4, h5, h6, h7] p t x = [xM h0 (xM ((allN [m0, m1, m2, m3, m4, m5, m6, m7, m8, m9, m10, m11, m12, m13, m14, m15] (vN [h0, h1, h2, h3, h4, h5, h6, h7] t x) 12).getD 0 0) ((allN [m0, m1, m2, m3, m4, m5, m6, m7, m8, m9, m10, m11, m12, m13, m14, m15] (vN [h0, h1, h2, h3, h4, h5, h6, h7] t x) 12).getD 8 0)), xM h1 (xM ((allN [m0, m1, m2, m3, m4, m5, m6, m7, m8, m9, m10, m11, m12, m13, m14, m15] (vN [h0, h1, h2, h3, h4, h5, h6, h7] t x) 12).getD 1 0) ((allN [m0, m1, m2, m3, m4, m5, m6, m7, m8, m9, m10, m11, m12, m13, m14, m15] (vN [h0, h1, h2, h3, h4, h5, h6, h7] t x) 12).getD 9 0)), xM h2 (xM ((allN [m0, m1, m2, m3, m4, m5, m6, m7, m8, m9, m10, m11, m12, m13, m14, m15] (vN [h0, h1, h2, h3, h4, h5, h6, h7] t x) 12).getD 2 0) ((allN [m0, m1, m2, m3, m4, m5, m6, m7, m8, m9, m10, m11, m12, m13, m14, m15] (vN [h0, h1, h2, h3, h4, h5, h6, h7] t x) 12).getD 10 0)), xM h3 (xM ((allN [m0, m1, m2, m3, m4, m5, m6, m7, m8, m9, m10, m11, m12, m13, m14, m15] (vN [h0, h1, h2, h3, h4, h5, h6, h7] t x) 12).getD 3 0) ((allN [m0, m1, m2, m3, m4, m5, m6, m7, m8, m9, m10, m11, m12, m13, m14, m15] (vN [h0, h1, h2, h3, h4, h5, h6, h7] t x) 12).getD 11 0)), xM h4 (xM ((allN [m0, m1, m2, m3, m4, m5, m6, m7, m8, m9, m10, m11, m12, m13, m14, m15] (vN [h0, h1, h2, h3, h4, h5, h6, h7] t x) 12).getD 4 0) ((allN [m0, m1, m2, m3, m4, m5, m6, m7, m8, m9, m10, m11, m12, m13, m14, m15] (vN [h0, h1, h2, h3, h4, h5, h6, h7] t x) 12).getD 12 0)), xM h5 (xM ((allN [m0, m1, m2, m3, m4, m5, m6, m7, m8, m9, m10, m11, m12, m13, m14, m15] (vN [h0, h1, h2, h3, h4, h5, h6, h7] t x) 12).getD 5 0) ((allN [m0, m1, m2, m3, m4, m5, m6, m7, m8, m9, m10, m11, m12, m13, m14, m15] (vN [h0, h1, h2, h3, h4, h5, h6, h7] t x) 12).getD 13 0)), xM h6 (xM ((allN [m0, m1, m2, m3, m4, m5, m6, m7, m8, m9, m10, m11, m12, m13, m14, m15] (vN [h0, h1, h2, h3, h4, h5, h6, h7] t x) 12).getD 6 0) ((allN [m0, m1, m2, m3, m4, m5, m6, m7, m8, m9, m10, m11, m12, m13, m14, m15] (vN [h0, h1, h2, h3, h4, h5, h6, h7] t x) 12).getD 14 0)), xM h7 (xM ((allN [m0, m1, m2, m3, m4, m5, m6, m7, m8, m9, m10, m11, m12, m13, m14, m15] (vN [h0, h1, h2, h3, h4, h5, h6, h7] t x) 12).getD 7 0) ((allN [m0, m1, m2, m3, m4, m5, m6, m7, m8, m9, m10, m11, m12, m13, m14, m15] (vN [h0, h1, h2, h3, h4, h5, h6, h7] t x) 12).getD 15 0))] := by
    unfold zfg; rw [hw]; rfl
  have ev : vN [h0, h1, h2, h3, h4, h5, h6, h7] t x = [h0, h1, h2, h3, h4, h5, h6, h7, 7640891576956012808, 13503953896175478587, 4354685564936845355, 11912009170470909681, xM 5840696475078001361 t, 11170449401992604703, xM x 2270897969802886507, 6620516959819538809] := rfl
  rw [ev] at e
  rw [e, hw]
  simp only [un16, un8n, z9j, zcw, zve]
theorem yco (h0 h1 h2 h3 h4 h5 h6 h7 v0 v1 v2 v3 v4 v5 v6 v7 v8 v9 v10 v11 v12 v13 v14 v15 : Nat) : za7 (zc [h0, h1, h2, h3, h4, h5, h6, h7]) (zc [v0, v1, v2, v3, v4, v5, v6, v7, v8, v9, v10, v11, v12, v13, v14, v15]) 8 = zc [xM h0 (xM v0 v8), xM h1 (xM v1 v9), xM h2 (xM v2 v10), xM h3 (xM v3 v11), xM h4 (xM v4 v12), xM h5 (xM v5 v13), xM h6 (xM v6 v14), xM h7 (xM v7 v15)] := by
  simp only [za7, zc, List.map_cons, List.map_nil, List.set_cons_zero, List.set_cons_succ, List.getD_cons_zero, List.getD_cons_succ, Nat.reduceAdd, zdd]
theorem z8d (h0 h1 h2 h3 h4 h5 h6 h7 t : Nat) : Y6 (zc [h0, h1, h2, h3, h4, h5, h6, h7]) (t : Int) false = zc (vN [h0, h1, h2, h3, h4, h5, h6, h7] t 0) := by
  have h := zdd 5840696475078001361 t
  have e : xM 0 2270897969802886507 = 2270897969802886507 := by decide
  simp only [Int.cast_ofNat_Int] at h
  unfold Y6 vN Yz
  simp only [Bool.false_eq_true, if_false, zc, List.map_cons, List.map_nil, List.cons_append, List.nil_append, List.set_cons_zero, List.set_cons_succ, List.getD_cons_zero, List.getD_cons_succ, h, e, Int.cast_ofNat_Int]
theorem z8c (h0 h1 h2 h3 h4 h5 h6 h7 t : Nat) : Y6 (zc [h0, h1, h2, h3, h4, h5, h6, h7]) (t : Int) true = zc (vN [h0, h1, h2, h3, h4, h5, h6, h7] t 18446744073709551615) := by
  have h := zdd 5840696475078001361 t
  have h2 := zdd 18446744073709551615 2270897969802886507
  simp only [Int.cast_ofNat_Int] at h h2
  have hm : IntKind.u64.max = 18446744073709551615 := rfl
  unfold Y6 vN Yz
  simp only [if_true, hm, zc, List.map_cons, List.map_nil, List.cons_append, List.nil_append, List.set_cons_zero, List.set_cons_succ, List.getD_cons_zero, List.getD_cons_succ, h, h2, Int.cast_ofNat_Int]
theorem zvn {h p : List Nat} (hh : h.length = 8) (hp : BtN p) (t : Nat) (last : Bool) : Q8 (zc h) (zc p) (t : Int) last = zc (zfg h p t (if last = true then 18446744073709551615 else 0)) := by
  obtain ⟨h0, h1, h2, h3, h4, h5, h6, h7, rfl⟩ := ex8 hh
  unfold Q8
  rw [z3z hp]
  have hv : Y6 (zc [h0, h1, h2, h3, h4, h5, h6, h7]) (t : Int) last = zc (vN [h0, h1, h2, h3, h4, h5, h6, h7] t (if last = true then 18446744073709551615 else 0)) := by
    cases last
    · exact z8d _ _ _ _ _ _ _ _ _
    · exact z8c _ _ _ _ _ _ _ _ _
  rw [hv, z75]
  obtain ⟨x, hx⟩ : ∃ x, (if last = true then 18446744073709551615 else 0) = x := ⟨_, rfl⟩
  rw [hx]
  have hl : (allN (Q2 16 p) (vN [h0, h1, h2, h3, h4, h5, h6, h7] t x) 12).length = 16 := by rw [zxo]; rfl
  obtain ⟨v0, v1, v2, v3, v4, v5, v6, v7, v8, v9, v10, v11, v12, v13, v14, v15, hw⟩ := ex16 hl
  have e : zfg [h0, h1, h2, h3, h4, h5, h6, h7] p t x = [xM h0 (xM v0 v8), xM h1 (xM v1 v9), xM h2 (xM v2 v10), xM h3 (xM v3 v11), xM h4 (xM v4 v12), xM h5 (xM v5 v13), xM h6 (xM v6 v14), xM h7 (xM v7 v15)] := by
    unfold zfg; rw [hw]; rfl
  rw [e, hw, yco]
end Go.Proofs.Ytfnfmbikooeiaaa
namespace Go.Proofs.Ytfnfmbikooeiaaa
open Go.Ax
def F40 : List AV → Option AV
  | [.arr 128 .u64 x, .arr 128 .u64 y] => Zu (x.length = 128 ∧ y.length = 128) (some (.arr 128 .u64 (Ys x y)))
  | _ => none
theorem ynq (x y : List Int) : F40 [.arr 128 .u64 x, .arr 128 .u64 y] = Zu (x.length = 128 ∧ y.length = 128) (some (.arr 128 .u64 (Ys x y))) := rfl
def F41 : List AV → Option AV
  | [.arr 128 .u64 x, .arr 128 .u64 y] => Zu (x.length = 128 ∧ y.length = 128) (some (.arr 128 .u64 (ze2 x y)))
  | _ => none
theorem ynp (x y : List Int) : F41 [.arr 128 .u64 x, .arr 128 .u64 y] = Zu (x.length = 128 ∧ y.length = 128) (some (.arr 128 .u64 (ze2 x y))) := rfl
noncomputable def zsb (p : List Int) : List Int := Classical.choose (p := fun l => l = Ju p 1024) ⟨_, rfl⟩
theorem zpn (p : List Int) : zsb p = Ju p 1024 := Classical.choose_spec (p := fun l => l = Ju p 1024) ⟨_, rfl⟩
theorem z2z (p : List Int) : (zsb p).length = 1024 := by rw [zpn, zey]
noncomputable def zb5 (b : List Int) : List Int := Classical.choose (p := fun l => l = Qw b 1024) ⟨_, rfl⟩
theorem zio (b : List Int) : zb5 b = Qw b 1024 := Classical.choose_spec (p := fun l => l = Qw b 1024) ⟨_, rfl⟩
theorem zc2 (b : List Int) : (zb5 b).length = 128 := by rw [zio, Jg]
theorem ze9 (b : List Int) : (zb5 b).take 128 = zb5 b := zdx (zc2 b)
noncomputable def N36 (h : List Blk) : List AV → Option Out
  | [.arr 128 .u64 p] => Zu (p.length = 128) (some (.cap 0 fun c => (.sl h.length 0 1 0 1024 c, h ++ [some [.arr 1024 .u8 (zsb p)]])))
  | _ => none
theorem ym8 (h : List Blk) (p : List Int) : N36 h [.arr 128 .u64 p] = Zu (p.length = 128) (some (.cap 0 fun c => (.sl h.length 0 1 0 1024 c, h ++ [some [.arr 1024 .u8 (zsb p)]]))) := rfl
noncomputable def z5q (h : List Blk) (b : List Int) : Option Out :=
  osel (decide (b.length = 1024)) (some (.one (.tup [.arr 128 .u64 (zb5 b), .v (.int .i64 0)]) h))
    (some (.one (.tup [.arr 128 .u64 (List.replicate 128 0), .v (.int .i64 1)]) h))
noncomputable def N37 (h : List Blk) : List AV → Option Out
  | [m] => (u8Of h m).bind (z5q h)
  | _ => none
theorem ym7 (h : List Blk) (m : AV) : N37 h [m] = (u8Of h m).bind (z5q h) := rfl
noncomputable def p11 : FuncId → Option (List AV → Option AV) := Qb (Qb p10 40 F40) 41 F41
noncomputable def n11 : FuncId → Option (List Blk → List AV → Option Out) := Qz (Qz (Qz (Qz n10 36 N36) 39 N36) 37 N37) 38 N37
noncomputable def c17 (k : Nat) : Cfg := ⟨Try.prog, k, p11, [], n11, none, []⟩
theorem zua (k : Nat) : (c17 k).odd = [] := rfl
theorem zzf (k : Nat) : (c17 k).ro = [] := rfl
theorem z7f (k : Nat) : (c17 k).P = Try.prog := rfl
theorem ymg (k : Nat) : (c17 k).pure = p11 := rfl
theorem ymh (k : Nat) : (c17 k).news = n11 := rfl
theorem xc17 :
  (type_of% @Go.Proofs.Ytfnfmbikooeiaaa.ymg) ∧
  (type_of% @Go.Proofs.Ytfnfmbikooeiaaa.ymh) ∧
  (type_of% @Go.Proofs.Ytfnfmbikooeiaaa.p11.eq_1) ∧
  (type_of% @Go.Proofs.Ytfnfmbikooeiaaa.ynq) ∧
  (type_of% @Go.Proofs.Ytfnfmbikooeiaaa.ynp) ∧
  (type_of% @Go.Proofs.Ytfnfmbikooeiaaa.n11.eq_1) ∧
  (type_of% @Go.Proofs.Ytfnfmbikooeiaaa.ym8) ∧
  (type_of% @Go.Proofs.Ytfnfmbikooeiaaa.ym7) ∧
  (type_of% @Go.Proofs.Ytfnfmbikooeiaaa.z5q.eq_1) :=
  ⟨@Go.Proofs.Ytfnfmbikooeiaaa.ymg, @Go.Proofs.Ytfnfmbikooeiaaa.ymh, @Go.Proofs.Ytfnfmbikooeiaaa.p11.eq_1, @Go.Proofs.Ytfnfmbikooeiaaa.ynq, @Go.Proofs.Ytfnfmbikooeiaaa.ynp, @Go.Proofs.Ytfnfmbikooeiaaa.n11.eq_1, @Go.Proofs.Ytfnfmbikooeiaaa.ym8, @Go.Proofs.Ytfnfmbikooeiaaa.ym7, @Go.Proofs.Ytfnfmbikooeiaaa.z5q.eq_1⟩
theorem Zs.bare {f : FuncId} {args : List AV} {v0 : AV} (hv : ∀ g, v0.ren g = v0) (hc : Zs Try.prog f args [] fun v _ => v = v0) : Zs Try.prog f args [] fun v h' => v = v0 ∧ h' = [] := by
  refine Zs.weak (C := c16 0) rfl hc ?_
  rintro v h' rfl
  exact ⟨_, _, Z2 (L := [(0, v)]) [] (by decide) (by simp) (by rfl) rfl ⟨by rw [hv]; rfl, trivial⟩, rfl, rfl⟩
theorem zqp {f : FuncId} (hs : ∀ p : List Int, p.length = 128 → Zs Try.prog f [.arr 128 .u64 p] [] fun v h' => ∃ c, v = .sl 0 0 1 0 1024 c ∧ h' = [some [.arr 1024 .u8 (Ju p 1024)]])
    (h : List Blk) (args : List AV) (out : Out) (hN : N36 h args = some out) : (out.all fun _ h' => ∃ ext, h' = h ++ ext) ∧ ∀ κ, out.all κ → Zs Try.prog f args h κ := by
  unfold N36 at hN
  split at hN
  · rename_i p
    obtain ⟨hp, hN⟩ := Zt hN
    cases hN
    refine ⟨fun c _ => ⟨_, rfl⟩, fun κ hκ => Ql (args := [.arr 128 .u64 p]) (hs p hp) (by rintro _ _ ⟨c, rfl, rfl⟩; exact ⟨rfl, rfl⟩) (fun g => rfl) ⟨Frz.same _, trivial⟩ ?_ hκ⟩
    rintro _ _ ⟨c, rfl, rfl⟩
    exact ⟨c, Nat.zero_le _, by rw [zpn]; rfl⟩
  · cases hN
theorem zr9 {f : FuncId} (hs : ∀ b : List Int, b.length = 1024 → Zs Try.prog f [.roI .u8 b] [] fun v _ => v = .tup [.arr 128 .u64 (Qw b 1024), .v (.int .i64 0)])
    (hb : ∀ b : List Int, b.length ≠ 1024 → Zs Try.prog f [.roI .u8 b] [] fun v _ => v = .tup [.arr 128 .u64 (List.replicate 128 0), .v (.int .i64 1)])
    (h : List Blk) (args : List AV) (out : Out) (hN : N37 h args = some out) : (out.all fun _ h' => ∃ ext, h' = h ++ ext) ∧ ∀ κ, out.all κ → Zs Try.prog f args h κ := by
  unfold N37 at hN
  split at hN
  · rename_i m
    obtain ⟨b, hm, hN⟩ := Option.bind_eq_some_iff.1 hN
    unfold z5q at hN
    by_cases hl : b.length = 1024
    · rw [zcj (decide_eq_true hl)] at hN
      cases hN
      rw [zio]
      refine ⟨⟨[], by simp⟩, fun κ hκ => Ql (args := [m]) (Zs.bare (fun g => rfl) (hs b hl)) (by rintro _ _ ⟨rfl, rfl⟩; exact ⟨rfl, rfl⟩) (fun g => rfl) ⟨Qv hm, trivial⟩ ?_ hκ⟩
      rintro _ _ ⟨rfl, rfl⟩
      exact ⟨rfl, by simp⟩
    · rw [zck (decide_eq_false hl)] at hN
      cases hN
      refine ⟨⟨[], by simp⟩, fun κ hκ => Ql (args := [m]) (Zs.bare (fun g => rfl) (hb b hl)) (by rintro _ _ ⟨rfl, rfl⟩; exact ⟨rfl, rfl⟩) (fun g => rfl) ⟨Qv hm, trivial⟩ ?_ hκ⟩
      rintro _ _ ⟨rfl, rfl⟩
      exact ⟨rfl, by simp⟩
  · cases hN
theorem zt2 (k : Nat) : (c17 k).Good := by
  refine Cfg.Good.addN (Cfg.Good.addN (Cfg.Good.addN (Cfg.Good.addN (Cfg.Good.add (Cfg.Good.add (zfi k) ?_ k) ?_ k) ?_ k) ?_ k) ?_ k) ?_ k
  · intro args v hF h κ hκ
    unfold F40 at hF
    split at hF
    · obtain ⟨⟨h1, h2⟩, hF⟩ := Zt hF
      cases hF
      exact Yn (zv6 _ _ h1 h2) (fun g => rfl) (fun g => rfl) h κ hκ
    · cases hF
  · intro args v hF h κ hκ
    unfold F41 at hF
    split at hF
    · obtain ⟨⟨h1, h2⟩, hF⟩ := Zt hF
      cases hF
      exact Yn (zvc _ _ h1 h2) (fun g => rfl) (fun g => rfl) h κ hκ
    · cases hF
  · exact fun h args out hN => zqp zwa h args out hN
  · exact fun h args out hN => zqp zvl h args out hN
  · exact fun h args out hN => zr9 zyk z25 h args out hN
  · exact fun h args out hN => zr9 zx7 z2l h args out hN
end Go.Proofs.Ytfnfmbikooeiaaa
namespace Go.Proofs.Ytfnfmbikooeiaaa
open Go.Ax
end Go.Proofs.Ytfnfmbikooeiaaa
namespace Go.Proofs.Ytfnfmbikooeiaaa
open Go.Ax
theorem zui (n a b : Int) : Zs Try.prog 66 [.v (.int .i64 n), .v (.int .i64 a), .v (.int .i64 b)] [] fun v _ => v = .v (.bool (decide (a ≤ n ∧ n ≤ b))) := by
  by_cases h : a ≤ n
  · have e : decide (a ≤ n ∧ n ≤ b) = decide (n ≤ b) := by simp [h]
    rw [e]
    refine Zq (zt2 0) Try.func66 rfl ⟨by kernel_rfl, by show 3 ≤ _; decide, by kernel_rfl, by kernel_rfl⟩ rfl ?_; have hr : Try.f66.results.toList = [.tmp 6] := rfl
    repeat (first | simp only [z7f, zua, zzf, Nat.reduceBEq, reduceIte, Nat.reduceEqDiff, reduceCtorEq, ne_eq, if_true, if_false, exA, exA, tabs, exB, exD, Zl, Zp, Ze, Zi, Zn, AV.isAggV, AV.parts, AV.one, AV.solid, Zf, Zb, Zj, Zc, Zk, Zh, Zg, bndA, lenA, Zd, rowOf, Za, intsOf, Zo, Nat.reduceAdd, Nat.reduceSub, Nat.reduceMul, Nat.reduceLeDiff, Nat.reduceLT, Nat.reduceGT, Int.reduceToNat, Int.reduceLE, Int.reduceLT, Int.reduceEq, Int.reduceNe, Int.reduceAdd, Int.reduceSub, Int.reduceMul, Int.reduceNeg, ite_true, ite_false, dite_true, xc10, xc11, xc12, xc13, xc14, xc15, xc16, xc17, Zm, hr] | simp (maxSteps := 1000000) (disch := omega) only [exE, Int.toNat_natCast, Int.reduceToNat])
  · have e : decide (a ≤ n ∧ n ≤ b) = false := by simp [h]
    rw [e]
    refine Zq (zt2 0) Try.func66 rfl ⟨by kernel_rfl, by show 3 ≤ _; decide, by kernel_rfl, by kernel_rfl⟩ rfl ?_; have hr : Try.f66.results.toList = [.tmp 6] := rfl
    repeat (first | simp only [z7f, zua, zzf, Nat.reduceBEq, reduceIte, Nat.reduceEqDiff, reduceCtorEq, ne_eq, if_true, if_false, exA, exA, tabs, exB, exD, Zl, Zp, Ze, Zi, Zn, AV.isAggV, AV.parts, AV.one, AV.solid, Zf, Zb, Zj, Zc, Zk, Zh, Zg, bndA, lenA, Zd, rowOf, Za, intsOf, Zo, Nat.reduceAdd, Nat.reduceSub, Nat.reduceMul, Nat.reduceLeDiff, Nat.reduceLT, Nat.reduceGT, Int.reduceToNat, Int.reduceLE, Int.reduceLT, Int.reduceEq, Int.reduceNe, Int.reduceAdd, Int.reduceSub, Int.reduceMul, Int.reduceNeg, ite_true, ite_false, dite_true, xc10, xc11, xc12, xc13, xc14, xc15, xc16, xc17, Zm, hr] | simp (maxSteps := 1000000) (disch := omega) only [exE, Int.toNat_natCast, Int.reduceToNat])
def F66 : List AV → Option AV
  | [.v (.int .i64 n), .v (.int .i64 a), .v (.int .i64 b)] => some (.v (.bool (decide (a ≤ n ∧ n ≤ b))))
  | _ => none
theorem yni (n a b : Int) : F66 [.v (.int .i64 n), .v (.int .i64 a), .v (.int .i64 b)] = some (.v (.bool (decide (a ≤ n ∧ n ≤ b)))) := rfl
theorem zzm (n : Int) : Zs Try.prog 67 [.v (.int .i64 n)] [] fun v h' => v = .sl 0 0 1 0 4 4 ∧ h' = [some [.arr 4 .u8 (le4 n)]] := by
  refine Zq (zt2 0) Try.func67 rfl ⟨by kernel_rfl, by show 1 ≤ _; decide, by kernel_rfl, by kernel_rfl⟩ rfl ?_; have hr : Try.f67.results.toList = [.tmp 2] := rfl
  repeat (first | simp only [z7f, zua, zzf, Nat.reduceBEq, reduceIte, Nat.reduceEqDiff, reduceCtorEq, ne_eq, if_true, if_false, exA, exA, tabs, exB, exD, Zl, Zp, Ze, Zi, Zn, AV.isAggV, AV.parts, AV.one, AV.solid, Zf, Zb, Zj, Zc, Zk, Zh, Zg, bndA, lenA, Zd, rowOf, Za, intsOf, Zo, Nat.reduceAdd, Nat.reduceSub, Nat.reduceMul, Nat.reduceLeDiff, Nat.reduceLT, Nat.reduceGT, Int.reduceToNat, Int.reduceLE, Int.reduceLT, Int.reduceEq, Int.reduceNe, Int.reduceAdd, Int.reduceSub, Int.reduceMul, Int.reduceNeg, ite_true, ite_false, dite_true, xc10, xc11, xc12, xc13, xc14, xc15, xc16, xc17, Zm, hr] | simp (maxSteps := 1000000) (disch := omega) only [exE, Int.toNat_natCast, Int.reduceToNat])
  rfl
def N67 (h : List Blk) : List AV → Option Out
  | [.v (.int .i64 n)] => some (.one (.sl h.length 0 1 0 4 4) (h ++ [some [.arr 4 .u8 (le4 n)]]))
  | _ => none
theorem ym2 (h : List Blk) (n : Int) : N67 h [.v (.int .i64 n)] = some (.one (.sl h.length 0 1 0 4 4) (h ++ [some [.arr 4 .u8 (le4 n)]])) := rfl
noncomputable def p20 : FuncId → Option (List AV → Option AV) := Qb p11 66 F66
noncomputable def n20 : FuncId → Option (List Blk → List AV → Option Out) := Qz n11 67 N67
noncomputable def c20 (k : Nat) : Cfg := ⟨Try.prog, k, p20, [], n20, none, []⟩
theorem zcq (k : Nat) : (c20 k).odd = [] := rfl
theorem zex (k : Nat) : (c20 k).ro = [] := rfl
theorem zh1 (k : Nat) : (c20 k).P = Try.prog := rfl
theorem ymd (k : Nat) : (c20 k).pure = p20 := rfl
theorem yme (k : Nat) : (c20 k).news = n20 := rfl
theorem xc20 :
  (type_of% @Go.Proofs.Ytfnfmbikooeiaaa.ymd) ∧
  (type_of% @Go.Proofs.Ytfnfmbikooeiaaa.yme) ∧
  (type_of% @Go.Proofs.Ytfnfmbikooeiaaa.p20.eq_1) ∧
  (type_of% @Go.Proofs.Ytfnfmbikooeiaaa.yni) ∧
  (type_of% @Go.Proofs.Ytfnfmbikooeiaaa.n20.eq_1) ∧
  (type_of% @Go.Proofs.Ytfnfmbikooeiaaa.ym2) :=
  ⟨@Go.Proofs.Ytfnfmbikooeiaaa.ymd, @Go.Proofs.Ytfnfmbikooeiaaa.yme, @Go.Proofs.Ytfnfmbikooeiaaa.p20.eq_1, @Go.Proofs.Ytfnfmbikooeiaaa.yni, @Go.Proofs.Ytfnfmbikooeiaaa.n20.eq_1, @Go.Proofs.Ytfnfmbikooeiaaa.ym2⟩
theorem zds (k : Nat) : (c20 k).Good := by
  refine Cfg.Good.addN (Cfg.Good.add (zt2 k) ?_ k) ?_ k
  · intro args v hF h κ hκ
    unfold F66 at hF
    split at hF
    · cases hF
      exact Yn (zui _ _ _) (fun g => rfl) (fun g => rfl) h κ hκ
    · cases hF
  · intro h args out hN
    unfold N67 at hN
    split at hN
    · rename_i n
      cases hN
      refine ⟨⟨_, rfl⟩, fun κ hκ => Ql (args := [.v (.int .i64 n)]) (zzm n) (by rintro _ _ ⟨rfl, rfl⟩; exact ⟨rfl, rfl⟩) (fun g => rfl) ⟨Frz.same _, trivial⟩ ?_ hκ⟩
      rintro _ _ ⟨rfl, rfl⟩
      exact ⟨rfl, rfl⟩
    · cases hN
def okP (t m l : Int) : Bool := decide (1 ≤ t ∧ t ≤ 8 ∧ 1 ≤ l ∧ l ≤ 4 ∧ 8 * l ≤ m ∧ m ≤ 256)
def errP (b : Bool) : Int := if b = true then 0 else 80
theorem zgl {t m l : Int} (h : ¬ (1 ≤ t ∧ t ≤ 8 ∧ 1 ≤ l ∧ l ≤ 4 ∧ 8 * l ≤ m ∧ m ≤ 256)) : errP (okP t m l) = 80 := by simp [errP, okP, h]
theorem z0j {t m l : Int} (h : 1 ≤ t ∧ t ≤ 8 ∧ 1 ≤ l ∧ l ≤ 4 ∧ 8 * l ≤ m ∧ m ≤ 256) : errP (okP t m l) = 0 := by simp [errP, okP, h]
theorem zze (t m l : Int) : Zs Try.prog 47 [.agg [.v (.int .i64 t), .v (.int .i64 m), .v (.int .i64 l)]] [] fun v _ => v = .v (.int .i64 (errP (okP t m l))) := by
  by_cases h1 : 1 ≤ t ∧ t ≤ 8
  · by_cases h2 : 1 ≤ l ∧ l ≤ 4
    · have hw : IntKind.i64.wrap (8 * l) = 8 * l := Zz _ (by omega)
      by_cases h3 : 8 * l ≤ m ∧ m ≤ 256
      · rw [z0j (by omega)]
        refine Zq (zds 0) Try.func47 rfl ⟨by kernel_rfl, by show 1 ≤ _; decide, by kernel_rfl, by kernel_rfl⟩ rfl ?_; have hr : Try.f47.results.toList = [.tmp 2] := rfl
        repeat (first | simp only [zh1, zcq, zex, Nat.reduceBEq, reduceIte, Nat.reduceEqDiff, reduceCtorEq, ne_eq, if_true, if_false, exA, exA, tabs, exB, exD, Zl, Zp, Ze, Zi, Zn, AV.isAggV, AV.parts, AV.one, AV.solid, Zf, Zb, Zj, Zc, Zk, Zh, Zg, bndA, lenA, Zd, rowOf, Za, intsOf, Zo, Nat.reduceAdd, Nat.reduceSub, Nat.reduceMul, Nat.reduceLeDiff, Nat.reduceLT, Nat.reduceGT, Int.reduceToNat, Int.reduceLE, Int.reduceLT, Int.reduceEq, Int.reduceNe, Int.reduceAdd, Int.reduceSub, Int.reduceMul, Int.reduceNeg, ite_true, ite_false, dite_true, xc10, xc11, xc12, xc13, xc14, xc15, xc16, xc17, xc20, Zm, hr, hw] | simp (maxSteps := 1000000) (disch := omega) only [exE, Int.toNat_natCast, Int.reduceToNat])
      · rw [zgl (by omega)]
        refine Zq (zds 0) Try.func47 rfl ⟨by kernel_rfl, by show 1 ≤ _; decide, by kernel_rfl, by kernel_rfl⟩ rfl ?_; have hr : Try.f47.results.toList = [.tmp 2] := rfl
        repeat (first | simp only [zh1, zcq, zex, Nat.reduceBEq, reduceIte, Nat.reduceEqDiff, reduceCtorEq, ne_eq, if_true, if_false, exA, exA, tabs, exB, exD, Zl, Zp, Ze, Zi, Zn, AV.isAggV, AV.parts, AV.one, AV.solid, Zf, Zb, Zj, Zc, Zk, Zh, Zg, bndA, lenA, Zd, rowOf, Za, intsOf, Zo, Nat.reduceAdd, Nat.reduceSub, Nat.reduceMul, Nat.reduceLeDiff, Nat.reduceLT, Nat.reduceGT, Int.reduceToNat, Int.reduceLE, Int.reduceLT, Int.reduceEq, Int.reduceNe, Int.reduceAdd, Int.reduceSub, Int.reduceMul, Int.reduceNeg, ite_true, ite_false, dite_true, xc10, xc11, xc12, xc13, xc14, xc15, xc16, xc17, xc20, Zm, hr, hw] | simp (maxSteps := 1000000) (disch := omega) only [exE, Int.toNat_natCast, Int.reduceToNat])
    · rw [zgl (by omega)]
      refine Zq (zds 0) Try.func47 rfl ⟨by kernel_rfl, by show 1 ≤ _; decide, by kernel_rfl, by kernel_rfl⟩ rfl ?_; have hr : Try.f47.results.toList = [.tmp 2] := rfl
      repeat (first | simp only [zh1, zcq, zex, Nat.reduceBEq, reduceIte, Nat.reduceEqDiff, reduceCtorEq, ne_eq, if_true, if_false, exA, exA, tabs, exB, exD, Zl, Zp, Ze, Zi, Zn, AV.isAggV, AV.parts, AV.one, AV.solid, Zf, Zb, Zj, Zc, Zk, Zh, Zg, bndA, lenA, Zd, rowOf, Za, intsOf, Zo, Nat.reduceAdd, Nat.reduceSub, Nat.reduceMul, Nat.reduceLeDiff, Nat.reduceLT, Nat.reduceGT, Int.reduceToNat, Int.reduceLE, Int.reduceLT, Int.reduceEq, Int.reduceNe, Int.reduceAdd, Int.reduceSub, Int.reduceMul, Int.reduceNeg, ite_true, ite_false, dite_true, xc10, xc11, xc12, xc13, xc14, xc15, xc16, xc17, xc20, Zm, hr] | simp (maxSteps := 1000000) (disch := omega) only [exE, Int.toNat_natCast, Int.reduceToNat])
  · rw [zgl (by omega)]
    refine Zq (zds 0) Try.func47 rfl ⟨by kernel_rfl, by show 1 ≤ _; decide, by kernel_rfl, by kernel_rfl⟩ rfl ?_; have hr : Try.f47.results.toList = [.tmp 2] := rfl
    repeat (first | simp only [zh1, zcq, zex, Nat.reduceBEq, reduceIte, Nat.reduceEqDiff, reduceCtorEq, ne_eq, if_true, if_false, exA, exA, tabs, exB, exD, Zl, Zp, Ze, Zi, Zn, AV.isAggV, AV.parts, AV.one, AV.solid, Zf, Zb, Zj, Zc, Zk, Zh, Zg, bndA, lenA, Zd, rowOf, Za, intsOf, Zo, Nat.reduceAdd, Nat.reduceSub, Nat.reduceMul, Nat.reduceLeDiff, Nat.reduceLT, Nat.reduceGT, Int.reduceToNat, Int.reduceLE, Int.reduceLT, Int.reduceEq, Int.reduceNe, Int.reduceAdd, Int.reduceSub, Int.reduceMul, Int.reduceNeg, ite_true, ite_false, dite_true, xc10, xc11, xc12, xc13, xc14, xc15, xc16, xc17, xc20, Zm, hr] | simp (maxSteps := 1000000) (disch := omega) only [exE, Int.toNat_natCast, Int.reduceToNat])
end Go.Proofs.Ytfnfmbikooeiaaa
namespace Go.Proofs.Ytfnfmbikooeiaaa
open Go.Ax
theorem zvk (t m l : Int) : Zs Try.prog 48 [.agg [.v (.int .i64 t), .v (.int .i64 m), .v (.int .i64 l)]] [] fun v _ => v = .v (.int .i64 (errP (okP t m l))) := by
  by_cases h1 : t < 1
  · rw [zgl (by omega)]
    refine Zq (zds 0) Try.func48 rfl ⟨by kernel_rfl, by show 1 ≤ _; decide, by kernel_rfl, by kernel_rfl⟩ rfl ?_; have hr : Try.f48.results.toList = [.tmp 2] := rfl
    repeat (first | simp only [zh1, zcq, zex, Nat.reduceBEq, reduceIte, Nat.reduceEqDiff, reduceCtorEq, ne_eq, if_true, if_false, exA, exA, tabs, exB, exD, Zl, Zp, Ze, Zi, Zn, AV.isAggV, AV.parts, AV.one, AV.solid, Zf, Zb, Zj, Zc, Zk, Zh, Zg, bndA, lenA, Zd, rowOf, Za, intsOf, Zo, Nat.reduceAdd, Nat.reduceSub, Nat.reduceMul, Nat.reduceLeDiff, Nat.reduceLT, Nat.reduceGT, Int.reduceToNat, Int.reduceLE, Int.reduceLT, Int.reduceEq, Int.reduceNe, Int.reduceAdd, Int.reduceSub, Int.reduceMul, Int.reduceNeg, ite_true, ite_false, dite_true, xc10, xc11, xc12, xc13, xc14, xc15, xc16, xc17, xc20, Zm, hr] | simp (maxSteps := 1000000) (disch := omega) only [exE, Int.toNat_natCast, Int.reduceToNat])
  by_cases h2 : 8 < t
  · rw [zgl (by omega)]
    refine Zq (zds 0) Try.func48 rfl ⟨by kernel_rfl, by show 1 ≤ _; decide, by kernel_rfl, by kernel_rfl⟩ rfl ?_; have hr : Try.f48.results.toList = [.tmp 2] := rfl
    repeat (first | simp only [zh1, zcq, zex, Nat.reduceBEq, reduceIte, Nat.reduceEqDiff, reduceCtorEq, ne_eq, if_true, if_false, exA, exA, tabs, exB, exD, Zl, Zp, Ze, Zi, Zn, AV.isAggV, AV.parts, AV.one, AV.solid, Zf, Zb, Zj, Zc, Zk, Zh, Zg, bndA, lenA, Zd, rowOf, Za, intsOf, Zo, Nat.reduceAdd, Nat.reduceSub, Nat.reduceMul, Nat.reduceLeDiff, Nat.reduceLT, Nat.reduceGT, Int.reduceToNat, Int.reduceLE, Int.reduceLT, Int.reduceEq, Int.reduceNe, Int.reduceAdd, Int.reduceSub, Int.reduceMul, Int.reduceNeg, ite_true, ite_false, dite_true, xc10, xc11, xc12, xc13, xc14, xc15, xc16, xc17, xc20, Zm, hr] | simp (maxSteps := 1000000) (disch := omega) only [exE, Int.toNat_natCast, Int.reduceToNat])
  by_cases h3 : l < 1
  · rw [zgl (by omega)]
    refine Zq (zds 0) Try.func48 rfl ⟨by kernel_rfl, by show 1 ≤ _; decide, by kernel_rfl, by kernel_rfl⟩ rfl ?_; have hr : Try.f48.results.toList = [.tmp 2] := rfl
    repeat (first | simp only [zh1, zcq, zex, Nat.reduceBEq, reduceIte, Nat.reduceEqDiff, reduceCtorEq, ne_eq, if_true, if_false, exA, exA, tabs, exB, exD, Zl, Zp, Ze, Zi, Zn, AV.isAggV, AV.parts, AV.one, AV.solid, Zf, Zb, Zj, Zc, Zk, Zh, Zg, bndA, lenA, Zd, rowOf, Za, intsOf, Zo, Nat.reduceAdd, Nat.reduceSub, Nat.reduceMul, Nat.reduceLeDiff, Nat.reduceLT, Nat.reduceGT, Int.reduceToNat, Int.reduceLE, Int.reduceLT, Int.reduceEq, Int.reduceNe, Int.reduceAdd, Int.reduceSub, Int.reduceMul, Int.reduceNeg, ite_true, ite_false, dite_true, xc10, xc11, xc12, xc13, xc14, xc15, xc16, xc17, xc20, Zm, hr] | simp (maxSteps := 1000000) (disch := omega) only [exE, Int.toNat_natCast, Int.reduceToNat])
  by_cases h4 : 4 < l
  · rw [zgl (by omega)]
    refine Zq (zds 0) Try.func48 rfl ⟨by kernel_rfl, by show 1 ≤ _; decide, by kernel_rfl, by kernel_rfl⟩ rfl ?_; have hr : Try.f48.results.toList = [.tmp 2] := rfl
    repeat (first | simp only [zh1, zcq, zex, Nat.reduceBEq, reduceIte, Nat.reduceEqDiff, reduceCtorEq, ne_eq, if_true, if_false, exA, exA, tabs, exB, exD, Zl, Zp, Ze, Zi, Zn, AV.isAggV, AV.parts, AV.one, AV.solid, Zf, Zb, Zj, Zc, Zk, Zh, Zg, bndA, lenA, Zd, rowOf, Za, intsOf, Zo, Nat.reduceAdd, Nat.reduceSub, Nat.reduceMul, Nat.reduceLeDiff, Nat.reduceLT, Nat.reduceGT, Int.reduceToNat, Int.reduceLE, Int.reduceLT, Int.reduceEq, Int.reduceNe, Int.reduceAdd, Int.reduceSub, Int.reduceMul, Int.reduceNeg, ite_true, ite_false, dite_true, xc10, xc11, xc12, xc13, xc14, xc15, xc16, xc17, xc20, Zm, hr] | simp (maxSteps := 1000000) (disch := omega) only [exE, Int.toNat_natCast, Int.reduceToNat])
  have hw : IntKind.i64.wrap (8 * l) = 8 * l := Zz _ (by omega)
  by_cases h5 : m < 8 * l
  · rw [zgl (by omega)]
    refine Zq (zds 0) Try.func48 rfl ⟨by kernel_rfl, by show 1 ≤ _; decide, by kernel_rfl, by kernel_rfl⟩ rfl ?_; have hr : Try.f48.results.toList = [.tmp 2] := rfl
    repeat (first | simp only [zh1, zcq, zex, Nat.reduceBEq, reduceIte, Nat.reduceEqDiff, reduceCtorEq, ne_eq, if_true, if_false, exA, exA, tabs, exB, exD, Zl, Zp, Ze, Zi, Zn, AV.isAggV, AV.parts, AV.one, AV.solid, Zf, Zb, Zj, Zc, Zk, Zh, Zg, bndA, lenA, Zd, rowOf, Za, intsOf, Zo, Nat.reduceAdd, Nat.reduceSub, Nat.reduceMul, Nat.reduceLeDiff, Nat.reduceLT, Nat.reduceGT, Int.reduceToNat, Int.reduceLE, Int.reduceLT, Int.reduceEq, Int.reduceNe, Int.reduceAdd, Int.reduceSub, Int.reduceMul, Int.reduceNeg, ite_true, ite_false, dite_true, xc10, xc11, xc12, xc13, xc14, xc15, xc16, xc17, xc20, Zm, hr, hw] | simp (maxSteps := 1000000) (disch := omega) only [exE, Int.toNat_natCast, Int.reduceToNat])
  by_cases h6 : 256 < m
  · rw [zgl (by omega)]
    refine Zq (zds 0) Try.func48 rfl ⟨by kernel_rfl, by show 1 ≤ _; decide, by kernel_rfl, by kernel_rfl⟩ rfl ?_; have hr : Try.f48.results.toList = [.tmp 2] := rfl
    repeat (first | simp only [zh1, zcq, zex, Nat.reduceBEq, reduceIte, Nat.reduceEqDiff, reduceCtorEq, ne_eq, if_true, if_false, exA, exA, tabs, exB, exD, Zl, Zp, Ze, Zi, Zn, AV.isAggV, AV.parts, AV.one, AV.solid, Zf, Zb, Zj, Zc, Zk, Zh, Zg, bndA, lenA, Zd, rowOf, Za, intsOf, Zo, Nat.reduceAdd, Nat.reduceSub, Nat.reduceMul, Nat.reduceLeDiff, Nat.reduceLT, Nat.reduceGT, Int.reduceToNat, Int.reduceLE, Int.reduceLT, Int.reduceEq, Int.reduceNe, Int.reduceAdd, Int.reduceSub, Int.reduceMul, Int.reduceNeg, ite_true, ite_false, dite_true, xc10, xc11, xc12, xc13, xc14, xc15, xc16, xc17, xc20, Zm, hr, hw] | simp (maxSteps := 1000000) (disch := omega) only [exE, Int.toNat_natCast, Int.reduceToNat])
  rw [z0j (by omega)]
  refine Zq (zds 0) Try.func48 rfl ⟨by kernel_rfl, by show 1 ≤ _; decide, by kernel_rfl, by kernel_rfl⟩ rfl ?_; have hr : Try.f48.results.toList = [.tmp 2] := rfl
  repeat (first | simp only [zh1, zcq, zex, Nat.reduceBEq, reduceIte, Nat.reduceEqDiff, reduceCtorEq, ne_eq, if_true, if_false, exA, exA, tabs, exB, exD, Zl, Zp, Ze, Zi, Zn, AV.isAggV, AV.parts, AV.one, AV.solid, Zf, Zb, Zj, Zc, Zk, Zh, Zg, bndA, lenA, Zd, rowOf, Za, intsOf, Zo, Nat.reduceAdd, Nat.reduceSub, Nat.reduceMul, Nat.reduceLeDiff, Nat.reduceLT, Nat.reduceGT, Int.reduceToNat, Int.reduceLE, Int.reduceLT, Int.reduceEq, Int.reduceNe, Int.reduceAdd, Int.reduceSub, Int.reduceMul, Int.reduceNeg, ite_true, ite_false, dite_true, xc10, xc11, xc12, xc13, xc14, xc15, xc16, xc17, xc20, Zm, hr, hw] | simp (maxSteps := 1000000) (disch := omega) only [exE, Int.toNat_natCast, Int.reduceToNat])
def F47 : List AV → Option AV
  | [.agg [.v (.int .i64 t), .v (.int .i64 m), .v (.int .i64 l)]] => some (.v (.int .i64 (errP (okP t m l))))
  | _ => none
theorem ynl (t m l : Int) : F47 [.agg [.v (.int .i64 t), .v (.int .i64 m), .v (.int .i64 l)]] = some (.v (.int .i64 (errP (okP t m l)))) := rfl
noncomputable def p21 : FuncId → Option (List AV → Option AV) := Qb (Qb p20 47 F47) 48 F47
noncomputable def c21 (k : Nat) : Cfg := ⟨Try.prog, k, p21, [], n20, none, []⟩
theorem zff (k : Nat) : (c21 k).odd = [] := rfl
theorem zh0 (k : Nat) : (c21 k).ro = [] := rfl
theorem zni (k : Nat) : (c21 k).P = Try.prog := rfl
theorem ymb (k : Nat) : (c21 k).pure = p21 := rfl
theorem ymc (k : Nat) : (c21 k).news = n20 := rfl
theorem xc21 :
  (type_of% @Go.Proofs.Ytfnfmbikooeiaaa.ymb) ∧
  (type_of% @Go.Proofs.Ytfnfmbikooeiaaa.ymc) ∧
  (type_of% @Go.Proofs.Ytfnfmbikooeiaaa.p21.eq_1) ∧
  (type_of% @Go.Proofs.Ytfnfmbikooeiaaa.ynl) :=
  ⟨@Go.Proofs.Ytfnfmbikooeiaaa.ymb, @Go.Proofs.Ytfnfmbikooeiaaa.ymc, @Go.Proofs.Ytfnfmbikooeiaaa.p21.eq_1, @Go.Proofs.Ytfnfmbikooeiaaa.ynl⟩
theorem zhr (k : Nat) : (c21 k).Good := by
  refine Cfg.Good.add (Cfg.Good.add (zds k) ?_ k) ?_ k
  all_goals
    intro args v hF h κ hκ
    unfold F47 at hF
    split at hF
    · cases hF
      first
        | exact Yn (zze _ _ _) (fun g => rfl) (fun g => rfl) h κ hκ
        | exact Yn (zvk _ _ _) (fun g => rfl) (fun g => rfl) h κ hκ
    · cases hF
def pgN (t m l : Int) : Int := if okP t m l = true then ((m.toNat / (4 * l.toNat) * 4 * l.toNat : Nat) : Int) else 0
theorem zk8 {t m l : Int} : okP t m l = true ↔ (1 ≤ t ∧ t ≤ 8 ∧ 1 ≤ l ∧ l ≤ 4 ∧ 8 * l ≤ m ∧ m ≤ 256) := by simp [okP]
theorem zyf (t m l : Int) : Zs Try.prog 49 [.agg [.v (.int .i64 t), .v (.int .i64 m), .v (.int .i64 l)]] [] fun v _ => v = .v (.int .i64 (pgN t m l)) := by
  by_cases h : okP t m l = true
  · have he : errP (okP t m l) = 0 := by rw [h]; rfl
    have hp : pgN t m l = ((m.toNat / (4 * l.toNat) * 4 * l.toNat : Nat) : Int) := by unfold pgN; rw [if_pos h]
    rw [hp]
    rw [zk8] at h
    obtain ⟨m, rfl⟩ := Int.eq_ofNat_of_zero_le (show 0 ≤ m by omega)
    obtain ⟨l, rfl⟩ := Int.eq_ofNat_of_zero_le (show 0 ≤ l by omega)
    refine Zq (zhr 0) Try.func49 rfl ⟨by kernel_rfl, by show 1 ≤ _; decide, by kernel_rfl, by kernel_rfl⟩ rfl ?_; have hr : Try.f49.results.toList = [.tmp 2] := rfl
    repeat (first | simp only [zni, zff, zh0, Nat.reduceBEq, reduceIte, Nat.reduceEqDiff, reduceCtorEq, ne_eq, if_true, if_false, exA, exA, tabs, exB, exD, Zl, Zp, Ze, Zi, Zn, AV.isAggV, AV.parts, AV.one, AV.solid, Zf, Zb, Zj, Zc, Zk, Zh, Zg, bndA, lenA, Zd, rowOf, Za, intsOf, Zo, Nat.reduceAdd, Nat.reduceSub, Nat.reduceMul, Nat.reduceLeDiff, Nat.reduceLT, Nat.reduceGT, Int.reduceToNat, Int.reduceLE, Int.reduceLT, Int.reduceEq, Int.reduceNe, Int.reduceAdd, Int.reduceSub, Int.reduceMul, Int.reduceNeg, ite_true, ite_false, dite_true, xc10, xc11, xc12, xc13, xc14, xc15, xc16, xc17, xc20, xc21, Zm, hr, he] | simp (maxSteps := 1000000) (disch := omega) only [exE, Int.toNat_natCast, Int.reduceToNat])
    refine ⟨by omega, ?_⟩
    have e1 : IntKind.i64.wrap ((m : Int) - ((m % (4 * l) : Nat) : Int)) = ((m / (4 * l) * 4 * l : Nat) : Int) := by
      have := Nat.mod_le m (4 * l)
      rw [Zz _ (by omega)]
      rcases (by omega : l = 1 ∨ l = 2 ∨ l = 3 ∨ l = 4) with rfl | rfl | rfl | rfl <;> omega
    rw [e1]
  · have he : errP (okP t m l) = 80 := by simp [errP, h]
    have hp : pgN t m l = 0 := by unfold pgN; rw [if_neg h]
    rw [hp]
    refine Zq (zhr 0) Try.func49 rfl ⟨by kernel_rfl, by show 1 ≤ _; decide, by kernel_rfl, by kernel_rfl⟩ rfl ?_; have hr : Try.f49.results.toList = [.tmp 2] := rfl
    repeat (first | simp only [zni, zff, zh0, Nat.reduceBEq, reduceIte, Nat.reduceEqDiff, reduceCtorEq, ne_eq, if_true, if_false, exA, exA, tabs, exB, exD, Zl, Zp, Ze, Zi, Zn, AV.isAggV, AV.parts, AV.one, AV.solid, Zf, Zb, Zj, Zc, Zk, Zh, Zg, bndA, lenA, Zd, rowOf, Za, intsOf, Zo, Nat.reduceAdd, Nat.reduceSub, Nat.reduceMul, Nat.reduceLeDiff, Nat.reduceLT, Nat.reduceGT, Int.reduceToNat, Int.reduceLE, Int.reduceLT, Int.reduceEq, Int.reduceNe, Int.reduceAdd, Int.reduceSub, Int.reduceMul, Int.reduceNeg, ite_true, ite_false, dite_true, xc10, xc11, xc12, xc13, xc14, xc15, xc16, xc17, xc20, xc21, Zm, hr, he] | simp (maxSteps := 1000000) (disch := omega) only [exE, Int.toNat_natCast, Int.reduceToNat])
theorem ztn (t m l : Int) : Zs Try.prog 50 [.agg [.v (.int .i64 t), .v (.int .i64 m), .v (.int .i64 l)]] [] fun v _ => v = .v (.int .i64 (pgN t m l)) := by
  by_cases h : okP t m l = true
  · have he : errP (okP t m l) = 0 := by rw [h]; rfl
    have hp : pgN t m l = ((m.toNat / (4 * l.toNat) * 4 * l.toNat : Nat) : Int) := by unfold pgN; rw [if_pos h]
    rw [hp]
    rw [zk8] at h
    obtain ⟨m, rfl⟩ := Int.eq_ofNat_of_zero_le (show 0 ≤ m by omega)
    obtain ⟨l, rfl⟩ := Int.eq_ofNat_of_zero_le (show 0 ≤ l by omega)
    refine Zq (zhr 0) Try.func50 rfl ⟨by kernel_rfl, by show 1 ≤ _; decide, by kernel_rfl, by kernel_rfl⟩ rfl ?_; have hr : Try.f50.results.toList = [.tmp 2] := rfl
    repeat (first | simp only [zni, zff, zh0, Nat.reduceBEq, reduceIte, Nat.reduceEqDiff, reduceCtorEq, ne_eq, if_true, if_false, exA, exA, tabs, exB, exD, Zl, Zp, Ze, Zi, Zn, AV.isAggV, AV.parts, AV.one, AV.solid, Zf, Zb, Zj, Zc, Zk, Zh, Zg, bndA, lenA, Zd, rowOf, Za, intsOf, Zo, Nat.reduceAdd, Nat.reduceSub, Nat.reduceMul, Nat.reduceLeDiff, Nat.reduceLT, Nat.reduceGT, Int.reduceToNat, Int.reduceLE, Int.reduceLT, Int.reduceEq, Int.reduceNe, Int.reduceAdd, Int.reduceSub, Int.reduceMul, Int.reduceNeg, ite_true, ite_false, dite_true, xc10, xc11, xc12, xc13, xc14, xc15, xc16, xc17, xc20, xc21, Zm, hr, he] | simp (maxSteps := 1000000) (disch := omega) only [exE, Int.toNat_natCast, Int.reduceToNat])
    refine ⟨by omega, ?_⟩
    have e1 : IntKind.i64.wrap (IntKind.i64.wrap (IntKind.i64.wrap ((m / (4 * l) : Nat) : Int) * 4) * (l : Int)) = ((m / (4 * l) * 4 * l : Nat) : Int) := by
      have hd : m / (4 * l) ≤ 256 := Nat.le_trans (Nat.div_le_self m (4 * l)) (by omega)
      generalize m / (4 * l) = D at hd
      have a1 : IntKind.i64.wrap (D : Int) = (D : Int) := Zz _ (by omega)
      have a2 : IntKind.i64.wrap ((D : Int) * 4) = ((D * 4 : Nat) : Int) := by rw [Zz _ (by omega)]; omega
      rw [a1, a2]
      rcases (by omega : l = 1 ∨ l = 2 ∨ l = 3 ∨ l = 4) with rfl | rfl | rfl | rfl <;> (rw [Zz _ (by omega)]; omega)
    rw [e1]
  · have he : errP (okP t m l) = 80 := by simp [errP, h]
    have hp : pgN t m l = 0 := by unfold pgN; rw [if_neg h]
    rw [hp]
    refine Zq (zhr 0) Try.func50 rfl ⟨by kernel_rfl, by show 1 ≤ _; decide, by kernel_rfl, by kernel_rfl⟩ rfl ?_; have hr : Try.f50.results.toList = [.tmp 2] := rfl
    repeat (first | simp only [zni, zff, zh0, Nat.reduceBEq, reduceIte, Nat.reduceEqDiff, reduceCtorEq, ne_eq, if_true, if_false, exA, exA, tabs, exB, exD, Zl, Zp, Ze, Zi, Zn, AV.isAggV, AV.parts, AV.one, AV.solid, Zf, Zb, Zj, Zc, Zk, Zh, Zg, bndA, lenA, Zd, rowOf, Za, intsOf, Zo, Nat.reduceAdd, Nat.reduceSub, Nat.reduceMul, Nat.reduceLeDiff, Nat.reduceLT, Nat.reduceGT, Int.reduceToNat, Int.reduceLE, Int.reduceLT, Int.reduceEq, Int.reduceNe, Int.reduceAdd, Int.reduceSub, Int.reduceMul, Int.reduceNeg, ite_true, ite_false, dite_true, xc10, xc11, xc12, xc13, xc14, xc15, xc16, xc17, xc20, xc21, Zm, hr, he] | simp (maxSteps := 1000000) (disch := omega) only [exE, Int.toNat_natCast, Int.reduceToNat])
def F49 : List AV → Option AV
  | [.agg [.v (.int .i64 t), .v (.int .i64 m), .v (.int .i64 l)]] => some (.v (.int .i64 (pgN t m l)))
  | _ => none
theorem ynk (t m l : Int) : F49 [.agg [.v (.int .i64 t), .v (.int .i64 m), .v (.int .i64 l)]] = some (.v (.int .i64 (pgN t m l))) := rfl
theorem z13 (b : List Int) (hb : b.length ≤ 274877906944) : Zs Try.prog 69 [.roI .u8 b] [] fun v h' => ∃ c, v = .sl 0 0 1 0 (4 + b.length) c ∧ h' = [some [.arr (4 + b.length) .u8 (le4 b.length ++ b)]] := by
  refine Zs.weak (C := c21 0) rfl (κ := fun v h' => ∃ c x, v = .sl 1 0 1 0 (4 + b.length) c ∧ h' = [x, some [.arr (4 + b.length) .u8 (le4 b.length ++ b)]]) ?_ ?_
  · have h4 : (le4 b.length).length = 4 := rfl
    have ht4 : (le4 b.length).take 4 = le4 b.length := rfl
    refine Zq (zhr 0) Try.func69 rfl ⟨by kernel_rfl, by show 1 ≤ _; decide, by kernel_rfl, by kernel_rfl⟩ rfl ?_; have hr : Try.f69.results.toList = [.tmp 2] := rfl
    repeat (first | simp only [zni, zff, zh0, Nat.reduceBEq, reduceIte, Nat.reduceEqDiff, reduceCtorEq, ne_eq, if_true, if_false, exA, exA, tabs, exB, exD, Zl, Zp, Ze, Zi, Zn, AV.isAggV, AV.parts, AV.one, AV.solid, Zf, Zb, Zj, Zc, Zk, Zh, Zg, bndA, lenA, Zd, rowOf, Za, intsOf, Zo, Nat.reduceAdd, Nat.reduceSub, Nat.reduceMul, Nat.reduceLeDiff, Nat.reduceLT, Nat.reduceGT, Int.reduceToNat, Int.reduceLE, Int.reduceLT, Int.reduceEq, Int.reduceNe, Int.reduceAdd, Int.reduceSub, Int.reduceMul, Int.reduceNeg, ite_true, ite_false, dite_true, xc10, xc11, xc12, xc13, xc14, xc15, xc16, xc17, xc20, xc21, Zm, hr, h4, ht4] | simp (maxSteps := 1000000) (disch := omega) only [exE, Int.toNat_natCast, Int.reduceToNat])
    intro c _
    exact ⟨_, _, rfl, rfl⟩
  · rintro v h' ⟨c, x, rfl, rfl⟩
    exact ⟨_, _, Z2 [1] (by decide) (by simp) (by rfl) rfl ⟨rfl, trivial⟩, _, rfl, rfl⟩
def N69 (h : List Blk) : List AV → Option Out
  | [m] => (u8Of h m).bind fun b => Zu (b.length ≤ 274877906944) (some (.cap 0 fun c => (.sl h.length 0 1 0 (4 + b.length) c, h ++ [some [.arr (4 + b.length) .u8 (le4 b.length ++ b)]])))
  | _ => none
theorem ym1 (h : List Blk) (m : AV) : N69 h [m] = (u8Of h m).bind fun b => Zu (b.length ≤ 274877906944) (some (.cap 0 fun c => (.sl h.length 0 1 0 (4 + b.length) c, h ++ [some [.arr (4 + b.length) .u8 (le4 b.length ++ b)]]))) := rfl
theorem z86 (n : Nat) (b : Int) (hn : n ≤ 1048576) : Zs Try.prog 65 [.v (.int .i64 n), .v (.int .u8 b)] [] fun v h' => v = .sl 0 0 1 0 n n ∧ h' = [some [.arr n .u8 (List.replicate n b)]] := by
  have hset : ∀ i, i < n → (List.replicate i b ++ List.replicate (n - i) 0).set i b = List.replicate (i + 1) b ++ List.replicate (n - (i + 1)) 0 := by
    intro i hi
    rw [List.set_append_right _ _ (by simp), List.length_replicate, Nat.sub_self, show n - i = (n - (i + 1)) + 1 by omega, List.replicate_succ, List.set_cons_zero, List.replicate_succ', List.append_assoc]; rfl
  refine Zq (zhr 0) Try.func65 rfl ⟨by kernel_rfl, by show 2 ≤ _; decide, by kernel_rfl, by kernel_rfl⟩ rfl ?_; have hr : Try.f65.results.toList = [.tmp 4] := rfl
  repeat (first | simp only [zni, zff, zh0, Nat.reduceBEq, reduceIte, Nat.reduceEqDiff, reduceCtorEq, ne_eq, if_true, if_false, exA, exA, tabs, exB, exD, Zl, Zp, Ze, Zi, Zn, AV.isAggV, AV.parts, AV.one, AV.solid, Zf, Zb, Zj, Zc, Zk, Zh, Zg, bndA, lenA, Zd, rowOf, Za, intsOf, Zo, Nat.reduceAdd, Nat.reduceSub, Nat.reduceMul, Nat.reduceLeDiff, Nat.reduceLT, Nat.reduceGT, Int.reduceToNat, Int.reduceLE, Int.reduceLT, Int.reduceEq, Int.reduceNe, Int.reduceAdd, Int.reduceSub, Int.reduceMul, Int.reduceNeg, ite_true, ite_false, dite_true, xc10, xc11, xc12, xc13, xc14, xc15, xc16, xc17, xc20, xc21, Zm, hr] | simp (maxSteps := 1000000) (disch := omega) only [exE, Int.toNat_natCast, Int.reduceToNat])
  repeat (with_reducible refine And.intro (by first | omega | assumption) ?_)
  refine Z3 (zhr 0) (fun i => ⟨envL [(0, .v (.int .i64 n)), (1, .v (.int .u8 b)), (5, .sl 0 0 1 0 n n), (6, .v (.int .i64 i))], [some [.arr n .u8 (List.replicate i b ++ List.replicate (n - i) 0)]]⟩) n (by kernel_rfl) ?_ ?_ ?_
  · have e0 : List.replicate 0 b ++ List.replicate (n - 0) 0 = List.replicate n 0 := rfl
    (refine Z1 ?_ ?_; (focus (first | with_reducible rfl | (simp only [e0] <;> with_reducible rfl))); simp only [exF, Nat.reduceEqDiff, if_true, if_false, reduceIte, Option.some.injEq, reduceCtorEq, Int.cast_ofNat_Int, e0])
  · intro i hi
    repeat (first | simp only [zni, zff, zh0, Nat.reduceBEq, reduceIte, Nat.reduceEqDiff, reduceCtorEq, ne_eq, if_true, if_false, exA, exA, tabs, exB, exD, Zl, Zp, Ze, Zi, Zn, AV.isAggV, AV.parts, AV.one, AV.solid, Zf, Zb, Zj, Zc, Zk, Zh, Zg, bndA, lenA, Zd, rowOf, Za, intsOf, Zo, Nat.reduceAdd, Nat.reduceSub, Nat.reduceMul, Nat.reduceLeDiff, Nat.reduceLT, Nat.reduceGT, Int.reduceToNat, Int.reduceLE, Int.reduceLT, Int.reduceEq, Int.reduceNe, Int.reduceAdd, Int.reduceSub, Int.reduceMul, Int.reduceNeg, ite_true, ite_false, dite_true, xc10, xc11, xc12, xc13, xc14, xc15, xc16, xc17, xc20, xc21, Zm, hr, hset i hi] | simp (maxSteps := 1000000) (disch := omega) only [exE, Int.toNat_natCast, Int.reduceToNat])
    repeat (with_reducible refine And.intro (by first | omega | assumption) ?_)
    (refine Z1 ?_ ?_; (focus (first | with_reducible rfl | (simp only [hset i hi] <;> with_reducible rfl))); simp only [exF, Nat.reduceEqDiff, if_true, if_false, reduceIte, Option.some.injEq, reduceCtorEq, Int.cast_ofNat_Int, hset i hi])
  · have en : List.replicate n b ++ List.replicate (n - n) 0 = List.replicate n b := by simp
    repeat (first | simp only [zni, zff, zh0, Nat.reduceBEq, reduceIte, Nat.reduceEqDiff, reduceCtorEq, ne_eq, if_true, if_false, exA, exA, tabs, exB, exD, Zl, Zp, Ze, Zi, Zn, AV.isAggV, AV.parts, AV.one, AV.solid, Zf, Zb, Zj, Zc, Zk, Zh, Zg, bndA, lenA, Zd, rowOf, Za, intsOf, Zo, Nat.reduceAdd, Nat.reduceSub, Nat.reduceMul, Nat.reduceLeDiff, Nat.reduceLT, Nat.reduceGT, Int.reduceToNat, Int.reduceLE, Int.reduceLT, Int.reduceEq, Int.reduceNe, Int.reduceAdd, Int.reduceSub, Int.reduceMul, Int.reduceNeg, ite_true, ite_false, dite_true, xc10, xc11, xc12, xc13, xc14, xc15, xc16, xc17, xc20, xc21, Zm, hr, en] | simp (maxSteps := 1000000) (disch := omega) only [exE, Int.toNat_natCast, Int.reduceToNat])
def N65 (h : List Blk) : List AV → Option Out
  | [.v (.int .i64 n), .v (.int .u8 b)] => Zu (0 ≤ n ∧ n ≤ 1048576) (some (.one (.sl h.length 0 1 0 n.toNat n.toNat) (h ++ [some [.arr n.toNat .u8 (List.replicate n.toNat b)]])))
  | _ => none
theorem ym3 (h : List Blk) (n b : Int) : N65 h [.v (.int .i64 n), .v (.int .u8 b)] = Zu (0 ≤ n ∧ n ≤ 1048576) (some (.one (.sl h.length 0 1 0 n.toNat n.toNat) (h ++ [some [.arr n.toNat .u8 (List.replicate n.toNat b)]]))) := rfl
end Go.Proofs.Ytfnfmbikooeiaaa
namespace Go.Proofs.Ytfnfmbikooeiaaa
open Go.Ax
noncomputable def p22 : FuncId → Option (List AV → Option AV) := Qb (Qb p21 49 F49) 50 F49
noncomputable def n22 : FuncId → Option (List Blk → List AV → Option Out) := Qz (Qz n20 69 N69) 65 N65
noncomputable def c22 (k : Nat) : Cfg := ⟨Try.prog, k, p22, [], n22, none, []⟩
theorem zd4 (k : Nat) : (c22 k).odd = [] := rfl
theorem zgt (k : Nat) : (c22 k).ro = [] := rfl
theorem zlt (k : Nat) : (c22 k).P = Try.prog := rfl
theorem yl9 (k : Nat) : (c22 k).pure = p22 := rfl
theorem yma (k : Nat) : (c22 k).news = n22 := rfl
theorem xc22 :
  (type_of% @Go.Proofs.Ytfnfmbikooeiaaa.yl9) ∧
  (type_of% @Go.Proofs.Ytfnfmbikooeiaaa.yma) ∧
  (type_of% @Go.Proofs.Ytfnfmbikooeiaaa.p22.eq_1) ∧
  (type_of% @Go.Proofs.Ytfnfmbikooeiaaa.ynk) ∧
  (type_of% @Go.Proofs.Ytfnfmbikooeiaaa.n22.eq_1) ∧
  (type_of% @Go.Proofs.Ytfnfmbikooeiaaa.ym1) ∧
  (type_of% @Go.Proofs.Ytfnfmbikooeiaaa.ym3) :=
  ⟨@Go.Proofs.Ytfnfmbikooeiaaa.yl9, @Go.Proofs.Ytfnfmbikooeiaaa.yma, @Go.Proofs.Ytfnfmbikooeiaaa.p22.eq_1, @Go.Proofs.Ytfnfmbikooeiaaa.ynk, @Go.Proofs.Ytfnfmbikooeiaaa.n22.eq_1, @Go.Proofs.Ytfnfmbikooeiaaa.ym1, @Go.Proofs.Ytfnfmbikooeiaaa.ym3⟩
theorem zfh (k : Nat) : (c22 k).Good := by
  refine Cfg.Good.addN (Cfg.Good.addN (Cfg.Good.add (Cfg.Good.add (zhr k) ?_ k) ?_ k) ?_ k) ?_ k
  · intro args v hF h κ hκ
    unfold F49 at hF
    split at hF
    · cases hF
      exact Yn (zyf _ _ _) (fun g => rfl) (fun g => rfl) h κ hκ
    · cases hF
  · intro args v hF h κ hκ
    unfold F49 at hF
    split at hF
    · cases hF
      exact Yn (ztn _ _ _) (fun g => rfl) (fun g => rfl) h κ hκ
    · cases hF
  · intro h args out hN
    unfold N69 at hN
    split at hN
    · rename_i m
      obtain ⟨b, hm, hN⟩ := Option.bind_eq_some_iff.1 hN
      obtain ⟨h2, hN⟩ := Zt hN
      cases hN
      refine ⟨fun c _ => ⟨_, rfl⟩, fun κ hκ => Ql (args := [m]) (z13 b h2) (by rintro _ _ ⟨c, rfl, rfl⟩; exact ⟨rfl, rfl⟩) (fun g => rfl) ⟨Qv hm, trivial⟩ ?_ hκ⟩
      rintro _ _ ⟨c, rfl, rfl⟩
      exact ⟨c, Nat.zero_le _, rfl⟩
    · cases hN
  · intro h args out hN
    unfold N65 at hN
    split at hN
    · rename_i n b
      obtain ⟨⟨h1, h2⟩, hN⟩ := Zt hN
      cases hN
      obtain ⟨n, rfl⟩ := Int.eq_ofNat_of_zero_le h1
      refine ⟨⟨_, rfl⟩, fun κ hκ => Ql (args := [.v (.int .i64 n), .v (.int .u8 b)]) (z86 n b (by omega)) (by rintro _ _ ⟨rfl, rfl⟩; exact ⟨rfl, rfl⟩) (fun g => rfl) ⟨Frz.same _, Frz.same _, trivial⟩ ?_ hκ⟩
      rintro _ _ ⟨rfl, rfl⟩
      exact ⟨rfl, rfl⟩
    · cases hN
def okS (n t m l : Int) (a b c d : List Int) : Bool :=
  decide (4 ≤ n ∧ n ≤ 128 ∧ okP t m l = true ∧ a.length ≤ 512 ∧ 8 ≤ b.length ∧ b.length ≤ 64 ∧ c.length ≤ 64 ∧ d.length ≤ 64)
theorem Q7 (b : Bool) : (errP b == 0) = b := by cases b <;> rfl
theorem Q6 (b : Bool) : (errP b != 0) = !b := by cases b <;> rfl
theorem zxc (n t m l : Int) (a b c d : List Int) : Zs Try.prog 68 [.v (.int .i64 n), .agg [.v (.int .i64 t), .v (.int .i64 m), .v (.int .i64 l)], .agg [.roI .u8 a, .roI .u8 b, .roI .u8 c, .roI .u8 d]] [] fun v _ => v = .v (.bool (okS n t m l a b c d)) := by
  by_cases k0 : 4 ≤ n
  rotate_left
  · have hn : okS n t m l a b c d = false := by simp [okS, k0]
    skip
    rw [hn]
    refine Zq (zfh 0) Try.func68 rfl ⟨by kernel_rfl, by show 3 ≤ _; decide, by kernel_rfl, by kernel_rfl⟩ rfl ?_; have hr : Try.f68.results.toList = [.tmp 6] := rfl
    repeat (first | simp only [zlt, zd4, zgt, Nat.reduceBEq, reduceIte, Nat.reduceEqDiff, reduceCtorEq, ne_eq, if_true, if_false, exA, exA, tabs, exB, exD, Zl, Zp, Ze, Zi, Zn, AV.isAggV, AV.parts, AV.one, AV.solid, Zf, Zb, Zj, Zc, Zk, Zh, Zg, bndA, lenA, Zd, rowOf, Za, intsOf, Zo, Nat.reduceAdd, Nat.reduceSub, Nat.reduceMul, Nat.reduceLeDiff, Nat.reduceLT, Nat.reduceGT, Int.reduceToNat, Int.reduceLE, Int.reduceLT, Int.reduceEq, Int.reduceNe, Int.reduceAdd, Int.reduceSub, Int.reduceMul, Int.reduceNeg, ite_true, ite_false, dite_true, xc10, xc11, xc12, xc13, xc14, xc15, xc16, xc17, xc20, xc21, xc22, Zm, hr, Q7, Q6] | simp (maxSteps := 1000000) (disch := omega) only [exE, Int.toNat_natCast, Int.reduceToNat])
  by_cases k1 : n ≤ 128
  rotate_left
  · have hn : okS n t m l a b c d = false := by simp [okS, k1]
    skip
    rw [hn]
    refine Zq (zfh 0) Try.func68 rfl ⟨by kernel_rfl, by show 3 ≤ _; decide, by kernel_rfl, by kernel_rfl⟩ rfl ?_; have hr : Try.f68.results.toList = [.tmp 6] := rfl
    repeat (first | simp only [zlt, zd4, zgt, Nat.reduceBEq, reduceIte, Nat.reduceEqDiff, reduceCtorEq, ne_eq, if_true, if_false, exA, exA, tabs, exB, exD, Zl, Zp, Ze, Zi, Zn, AV.isAggV, AV.parts, AV.one, AV.solid, Zf, Zb, Zj, Zc, Zk, Zh, Zg, bndA, lenA, Zd, rowOf, Za, intsOf, Zo, Nat.reduceAdd, Nat.reduceSub, Nat.reduceMul, Nat.reduceLeDiff, Nat.reduceLT, Nat.reduceGT, Int.reduceToNat, Int.reduceLE, Int.reduceLT, Int.reduceEq, Int.reduceNe, Int.reduceAdd, Int.reduceSub, Int.reduceMul, Int.reduceNeg, ite_true, ite_false, dite_true, xc10, xc11, xc12, xc13, xc14, xc15, xc16, xc17, xc20, xc21, xc22, Zm, hr, Q7, Q6] | simp (maxSteps := 1000000) (disch := omega) only [exE, Int.toNat_natCast, Int.reduceToNat])
  by_cases k2 : okP t m l = true
  rotate_left
  · have hn : okS n t m l a b c d = false := by simp [okS, k2]
    have kb : okP t m l = false := by simpa using k2
    rw [hn]
    refine Zq (zfh 0) Try.func68 rfl ⟨by kernel_rfl, by show 3 ≤ _; decide, by kernel_rfl, by kernel_rfl⟩ rfl ?_; have hr : Try.f68.results.toList = [.tmp 6] := rfl
    repeat (first | simp only [zlt, zd4, zgt, Nat.reduceBEq, reduceIte, Nat.reduceEqDiff, reduceCtorEq, ne_eq, if_true, if_false, exA, exA, tabs, exB, exD, Zl, Zp, Ze, Zi, Zn, AV.isAggV, AV.parts, AV.one, AV.solid, Zf, Zb, Zj, Zc, Zk, Zh, Zg, bndA, lenA, Zd, rowOf, Za, intsOf, Zo, Nat.reduceAdd, Nat.reduceSub, Nat.reduceMul, Nat.reduceLeDiff, Nat.reduceLT, Nat.reduceGT, Int.reduceToNat, Int.reduceLE, Int.reduceLT, Int.reduceEq, Int.reduceNe, Int.reduceAdd, Int.reduceSub, Int.reduceMul, Int.reduceNeg, ite_true, ite_false, dite_true, xc10, xc11, xc12, xc13, xc14, xc15, xc16, xc17, xc20, xc21, xc22, Zm, hr, Q7, Q6, kb] | simp (maxSteps := 1000000) (disch := omega) only [exE, Int.toNat_natCast, Int.reduceToNat])
  by_cases k3 : a.length ≤ 512
  rotate_left
  · have hn : okS n t m l a b c d = false := by simp [okS, k3]
    skip
    rw [hn]
    refine Zq (zfh 0) Try.func68 rfl ⟨by kernel_rfl, by show 3 ≤ _; decide, by kernel_rfl, by kernel_rfl⟩ rfl ?_; have hr : Try.f68.results.toList = [.tmp 6] := rfl
    repeat (first | simp only [zlt, zd4, zgt, Nat.reduceBEq, reduceIte, Nat.reduceEqDiff, reduceCtorEq, ne_eq, if_true, if_false, exA, exA, tabs, exB, exD, Zl, Zp, Ze, Zi, Zn, AV.isAggV, AV.parts, AV.one, AV.solid, Zf, Zb, Zj, Zc, Zk, Zh, Zg, bndA, lenA, Zd, rowOf, Za, intsOf, Zo, Nat.reduceAdd, Nat.reduceSub, Nat.reduceMul, Nat.reduceLeDiff, Nat.reduceLT, Nat.reduceGT, Int.reduceToNat, Int.reduceLE, Int.reduceLT, Int.reduceEq, Int.reduceNe, Int.reduceAdd, Int.reduceSub, Int.reduceMul, Int.reduceNeg, ite_true, ite_false, dite_true, xc10, xc11, xc12, xc13, xc14, xc15, xc16, xc17, xc20, xc21, xc22, Zm, hr, Q7, Q6, k2] | simp (maxSteps := 1000000) (disch := omega) only [exE, Int.toNat_natCast, Int.reduceToNat])
  by_cases k4 : 8 ≤ b.length
  rotate_left
  · have hn : okS n t m l a b c d = false := by simp [okS, k4]
    skip
    rw [hn]
    refine Zq (zfh 0) Try.func68 rfl ⟨by kernel_rfl, by show 3 ≤ _; decide, by kernel_rfl, by kernel_rfl⟩ rfl ?_; have hr : Try.f68.results.toList = [.tmp 6] := rfl
    repeat (first | simp only [zlt, zd4, zgt, Nat.reduceBEq, reduceIte, Nat.reduceEqDiff, reduceCtorEq, ne_eq, if_true, if_false, exA, exA, tabs, exB, exD, Zl, Zp, Ze, Zi, Zn, AV.isAggV, AV.parts, AV.one, AV.solid, Zf, Zb, Zj, Zc, Zk, Zh, Zg, bndA, lenA, Zd, rowOf, Za, intsOf, Zo, Nat.reduceAdd, Nat.reduceSub, Nat.reduceMul, Nat.reduceLeDiff, Nat.reduceLT, Nat.reduceGT, Int.reduceToNat, Int.reduceLE, Int.reduceLT, Int.reduceEq, Int.reduceNe, Int.reduceAdd, Int.reduceSub, Int.reduceMul, Int.reduceNeg, ite_true, ite_false, dite_true, xc10, xc11, xc12, xc13, xc14, xc15, xc16, xc17, xc20, xc21, xc22, Zm, hr, Q7, Q6, k2] | simp (maxSteps := 1000000) (disch := omega) only [exE, Int.toNat_natCast, Int.reduceToNat])
  by_cases k5 : b.length ≤ 64
  rotate_left
  · have hn : okS n t m l a b c d = false := by simp [okS, k5]
    skip
    rw [hn]
    refine Zq (zfh 0) Try.func68 rfl ⟨by kernel_rfl, by show 3 ≤ _; decide, by kernel_rfl, by kernel_rfl⟩ rfl ?_; have hr : Try.f68.results.toList = [.tmp 6] := rfl
    repeat (first | simp only [zlt, zd4, zgt, Nat.reduceBEq, reduceIte, Nat.reduceEqDiff, reduceCtorEq, ne_eq, if_true, if_false, exA, exA, tabs, exB, exD, Zl, Zp, Ze, Zi, Zn, AV.isAggV, AV.parts, AV.one, AV.solid, Zf, Zb, Zj, Zc, Zk, Zh, Zg, bndA, lenA, Zd, rowOf, Za, intsOf, Zo, Nat.reduceAdd, Nat.reduceSub, Nat.reduceMul, Nat.reduceLeDiff, Nat.reduceLT, Nat.reduceGT, Int.reduceToNat, Int.reduceLE, Int.reduceLT, Int.reduceEq, Int.reduceNe, Int.reduceAdd, Int.reduceSub, Int.reduceMul, Int.reduceNeg, ite_true, ite_false, dite_true, xc10, xc11, xc12, xc13, xc14, xc15, xc16, xc17, xc20, xc21, xc22, Zm, hr, Q7, Q6, k2] | simp (maxSteps := 1000000) (disch := omega) only [exE, Int.toNat_natCast, Int.reduceToNat])
  by_cases k6 : c.length ≤ 64
  rotate_left
  · have hn : okS n t m l a b c d = false := by simp [okS, k6]
    skip
    rw [hn]
    refine Zq (zfh 0) Try.func68 rfl ⟨by kernel_rfl, by show 3 ≤ _; decide, by kernel_rfl, by kernel_rfl⟩ rfl ?_; have hr : Try.f68.results.toList = [.tmp 6] := rfl
    repeat (first | simp only [zlt, zd4, zgt, Nat.reduceBEq, reduceIte, Nat.reduceEqDiff, reduceCtorEq, ne_eq, if_true, if_false, exA, exA, tabs, exB, exD, Zl, Zp, Ze, Zi, Zn, AV.isAggV, AV.parts, AV.one, AV.solid, Zf, Zb, Zj, Zc, Zk, Zh, Zg, bndA, lenA, Zd, rowOf, Za, intsOf, Zo, Nat.reduceAdd, Nat.reduceSub, Nat.reduceMul, Nat.reduceLeDiff, Nat.reduceLT, Nat.reduceGT, Int.reduceToNat, Int.reduceLE, Int.reduceLT, Int.reduceEq, Int.reduceNe, Int.reduceAdd, Int.reduceSub, Int.reduceMul, Int.reduceNeg, ite_true, ite_false, dite_true, xc10, xc11, xc12, xc13, xc14, xc15, xc16, xc17, xc20, xc21, xc22, Zm, hr, Q7, Q6, k2] | simp (maxSteps := 1000000) (disch := omega) only [exE, Int.toNat_natCast, Int.reduceToNat])
  by_cases k7 : d.length ≤ 64
  rotate_left
  · have hn : okS n t m l a b c d = false := by simp [okS, k7]
    skip
    rw [hn]
    refine Zq (zfh 0) Try.func68 rfl ⟨by kernel_rfl, by show 3 ≤ _; decide, by kernel_rfl, by kernel_rfl⟩ rfl ?_; have hr : Try.f68.results.toList = [.tmp 6] := rfl
    repeat (first | simp only [zlt, zd4, zgt, Nat.reduceBEq, reduceIte, Nat.reduceEqDiff, reduceCtorEq, ne_eq, if_true, if_false, exA, exA, tabs, exB, exD, Zl, Zp, Ze, Zi, Zn, AV.isAggV, AV.parts, AV.one, AV.solid, Zf, Zb, Zj, Zc, Zk, Zh, Zg, bndA, lenA, Zd, rowOf, Za, intsOf, Zo, Nat.reduceAdd, Nat.reduceSub, Nat.reduceMul, Nat.reduceLeDiff, Nat.reduceLT, Nat.reduceGT, Int.reduceToNat, Int.reduceLE, Int.reduceLT, Int.reduceEq, Int.reduceNe, Int.reduceAdd, Int.reduceSub, Int.reduceMul, Int.reduceNeg, ite_true, ite_false, dite_true, xc10, xc11, xc12, xc13, xc14, xc15, xc16, xc17, xc20, xc21, xc22, Zm, hr, Q7, Q6, k2] | simp (maxSteps := 1000000) (disch := omega) only [exE, Int.toNat_natCast, Int.reduceToNat])
  have hn : okS n t m l a b c d = true := by simp [okS, k0, k1, k2, k3, k4, k5, k6, k7]
  rw [hn]
  refine Zq (zfh 0) Try.func68 rfl ⟨by kernel_rfl, by show 3 ≤ _; decide, by kernel_rfl, by kernel_rfl⟩ rfl ?_; have hr : Try.f68.results.toList = [.tmp 6] := rfl
  repeat (first | simp only [zlt, zd4, zgt, Nat.reduceBEq, reduceIte, Nat.reduceEqDiff, reduceCtorEq, ne_eq, if_true, if_false, exA, exA, tabs, exB, exD, Zl, Zp, Ze, Zi, Zn, AV.isAggV, AV.parts, AV.one, AV.solid, Zf, Zb, Zj, Zc, Zk, Zh, Zg, bndA, lenA, Zd, rowOf, Za, intsOf, Zo, Nat.reduceAdd, Nat.reduceSub, Nat.reduceMul, Nat.reduceLeDiff, Nat.reduceLT, Nat.reduceGT, Int.reduceToNat, Int.reduceLE, Int.reduceLT, Int.reduceEq, Int.reduceNe, Int.reduceAdd, Int.reduceSub, Int.reduceMul, Int.reduceNeg, ite_true, ite_false, dite_true, xc10, xc11, xc12, xc13, xc14, xc15, xc16, xc17, xc20, xc21, xc22, Zm, hr, Q7, Q6, k2] | simp (maxSteps := 1000000) (disch := omega) only [exE, Int.toNat_natCast, Int.reduceToNat])
end Go.Proofs.Ytfnfmbikooeiaaa
namespace Go.Proofs.Ytfnfmbikooeiaaa
open Go.Ax
def F68 : List AV → Option AV
  | [.v (.int .i64 n), .agg [.v (.int .i64 t), .v (.int .i64 m), .v (.int .i64 l)], .agg [.roI .u8 a, .roI .u8 b, .roI .u8 c, .roI .u8 d]] => some (.v (.bool (okS n t m l a b c d)))
  | _ => none
theorem ynh (n t m l : Int) (a b c d : List Int) : F68 [.v (.int .i64 n), .agg [.v (.int .i64 t), .v (.int .i64 m), .v (.int .i64 l)], .agg [.roI .u8 a, .roI .u8 b, .roI .u8 c, .roI .u8 d]] = some (.v (.bool (okS n t m l a b c d))) := rfl
noncomputable def p23 : FuncId → Option (List AV → Option AV) := Qb p22 68 F68
noncomputable def c23 (k : Nat) : Cfg := ⟨Try.prog, k, p23, [], n22, none, []⟩
theorem zcp (k : Nat) : (c23 k).odd = [] := rfl
theorem zew (k : Nat) : (c23 k).ro = [] := rfl
theorem zhz (k : Nat) : (c23 k).P = Try.prog := rfl
theorem yl7 (k : Nat) : (c23 k).pure = p23 := rfl
theorem yl8 (k : Nat) : (c23 k).news = n22 := rfl
theorem xc23 :
  (type_of% @Go.Proofs.Ytfnfmbikooeiaaa.yl7) ∧
  (type_of% @Go.Proofs.Ytfnfmbikooeiaaa.yl8) ∧
  (type_of% @Go.Proofs.Ytfnfmbikooeiaaa.p23.eq_1) ∧
  (type_of% @Go.Proofs.Ytfnfmbikooeiaaa.ynh) :=
  ⟨@Go.Proofs.Ytfnfmbikooeiaaa.yl7, @Go.Proofs.Ytfnfmbikooeiaaa.yl8, @Go.Proofs.Ytfnfmbikooeiaaa.p23.eq_1, @Go.Proofs.Ytfnfmbikooeiaaa.ynh⟩
theorem zc6 (k : Nat) : (c23 k).Good := by
  refine Cfg.Good.add (zfh k) ?_ k
  intro args v hF h κ hκ
  unfold F68 at hF
  split at hF
  · cases hF
    exact Yn (zxc _ _ _ _ _ _ _ _) (fun g => rfl) (fun g => rfl) h κ hκ
  · cases hF
noncomputable def c23o (k : Nat) : Cfg := ⟨Try.prog, k, p23, [9], n22, none, []⟩
theorem zbv (k : Nat) : (c23o k).odd = [9] := rfl
theorem zdc (k : Nat) : (c23o k).ro = [] := rfl
theorem zfk (k : Nat) : (c23o k).P = Try.prog := rfl
theorem ydn (k : Nat) : (c23o k).pure = p23 := rfl
theorem ydo (k : Nat) : (c23o k).news = n22 := rfl
theorem zi5 :
  (type_of% @Go.Proofs.Ytfnfmbikooeiaaa.ydn) ∧
  (type_of% @Go.Proofs.Ytfnfmbikooeiaaa.ydo) :=
  ⟨@Go.Proofs.Ytfnfmbikooeiaaa.ydn, @Go.Proofs.Ytfnfmbikooeiaaa.ydo⟩
theorem zn5 (k : Nat) : (c23o k).Good := zc6 k
noncomputable def c23w (k : Nat) : Cfg := (c23o k).withRo [36, 40, 44, 48]
theorem z7d (k : Nat) : (c23w k).odd = [] := rfl
theorem z9y (k : Nat) : (c23w k).ro = [36, 40, 44, 48] := rfl
theorem yc9 (k : Nat) : (c23w k).P = Try.prog := rfl
theorem ydl (k : Nat) : (c23w k).pure = p23 := rfl
theorem ydm (k : Nat) : (c23w k).news = n22 := rfl
theorem yds :
  (type_of% @Go.Proofs.Ytfnfmbikooeiaaa.ydl) ∧
  (type_of% @Go.Proofs.Ytfnfmbikooeiaaa.ydm) :=
  ⟨@Go.Proofs.Ytfnfmbikooeiaaa.ydl, @Go.Proofs.Ytfnfmbikooeiaaa.ydm⟩
def zjd (n t m l : Int) (a b c d : List Int) : List Int :=
  le4 l ++ (le4 n ++ (le4 m ++ (le4 t ++ (le4 19 ++ (le4 2 ++ (le4 a.length ++ (a ++ (le4 b.length ++ (b ++ (le4 c.length ++ (c ++ (le4 d.length ++ d))))))))))))
def za4 (n t m l : Int) (a b c d : List Int) : List Int := Qd 64 [] (zjd n t m l a b c d)
theorem zn1 {n t m l : Int} {a b c d : List Int} : okS n t m l a b c d = true ↔ (4 ≤ n ∧ n ≤ 128 ∧ okP t m l = true ∧ a.length ≤ 512 ∧ 8 ≤ b.length ∧ b.length ≤ 64 ∧ c.length ≤ 64 ∧ d.length ≤ 64) := by simp [okS]
theorem z2k (n t m l : Int) (a b c d : List Int) (h : okS n t m l a b c d = false) : Zs Try.prog 52 [.v (.int .i64 n), .agg [.v (.int .i64 t), .v (.int .i64 m), .v (.int .i64 l)], .agg [.roI .u8 a, .roI .u8 b, .roI .u8 c, .roI .u8 d]] [] fun v _ => v = .tup [.v (.slice none 0 0), .v (.int .i64 80)] := by
  refine Zq (zn5 0) Try.func52 rfl ⟨by kernel_rfl, by show 3 ≤ _; decide, by kernel_rfl, by kernel_rfl⟩ rfl ?_; have hr : Try.f52.results.toList = [.tmp 6, .tmp 7] := rfl
  repeat (first | simp only [zfk, zbv, zdc, Nat.reduceBEq, reduceIte, Nat.reduceEqDiff, reduceCtorEq, ne_eq, if_true, if_false, exA, exA, tabs, exB, exD, Zl, Zp, Ze, Zi, Zn, AV.isAggV, AV.parts, AV.one, AV.solid, Zf, Zb, Zj, Zc, Zk, Zh, Zg, bndA, lenA, Zd, rowOf, Za, intsOf, Zo, Nat.reduceAdd, Nat.reduceSub, Nat.reduceMul, Nat.reduceLeDiff, Nat.reduceLT, Nat.reduceGT, Int.reduceToNat, Int.reduceLE, Int.reduceLT, Int.reduceEq, Int.reduceNe, Int.reduceAdd, Int.reduceSub, Int.reduceMul, Int.reduceNeg, ite_true, ite_false, dite_true, xc10, xc11, xc12, xc13, xc14, xc15, xc16, xc17, xc20, xc21, xc22, xc23, zi5, Zm, hr, h] | simp (maxSteps := 1000000) (disch := omega) only [exE, Int.toNat_natCast, Int.reduceToNat])
theorem z5d (n t m l : Int) (a b c d : List Int) (h : okS n t m l a b c d = true) : Zs Try.prog 52 [.v (.int .i64 n), .agg [.v (.int .i64 t), .v (.int .i64 m), .v (.int .i64 l)], .agg [.roI .u8 a, .roI .u8 b, .roI .u8 c, .roI .u8 d]] [] fun v h' => ∃ c0, v = .tup [.sl 0 0 1 0 64 c0, .v (.int .i64 0)] ∧ h' = [some [.arr 64 .u8 (za4 n t m l a b c d)]] := by
  have hk := zn1.1 h
  have hSl : (zjd n t m l a b c d).length ≤ 549755813888 := by
    have e : (zjd n t m l a b c d).length = 40 + a.length + b.length + c.length + d.length := by simp only [zjd, List.length_append, le4, List.length_cons, List.length_nil]; omega
    omega
  refine Zs.weak (C := c23o 0) rfl (κ := fun v h' => ∃ c0, v = .tup [.sl 1 0 1 0 64 c0, .v (.int .i64 0)] ∧ ∃ x, h' = [x, some [.arr 64 .u8 (za4 n t m l a b c d)]]) ?_ ?_
  case refine_2 =>
    rintro v h' ⟨c0, rfl, x, rfl⟩
    exact ⟨.tup [.sl 0 0 1 0 64 c0, .v (.int .i64 0)], [some [.arr 64 .u8 (za4 n t m l a b c d)]], by (refine Z2 [1] (by decide) (by simp) (by rfl) ?_ ?_; (focus (first | with_reducible rfl | (simp only [List.map_cons, List.map_nil, List.cons_append, List.nil_append, List.getElem?_cons_zero, List.getElem?_cons_succ, renB, renL, Option.map_some, Option.map_none, AV.ren, Z4, List.getD_cons_zero, List.getD_cons_succ, renL] <;> with_reducible rfl))); simp only [exF, List.map_cons, List.map_nil, List.length_cons, List.length_nil, Nat.reduceAdd, AV.ren, renL, Z4, Nat.reduceEqDiff, if_true, if_false, reduceIte, Option.some.injEq, reduceCtorEq, Int.cast_ofNat_Int, renL]), c0, rfl, rfl⟩
  refine Zq (zn5 0) Try.func52 rfl ⟨by kernel_rfl, by show 3 ≤ _; decide, by kernel_rfl, by kernel_rfl⟩ rfl ?_; have hr : Try.f52.results.toList = [.tmp 6, .tmp 7] := rfl
  repeat (first | simp only [zfk, zbv, zdc, Nat.reduceBEq, reduceIte, Nat.reduceEqDiff, reduceCtorEq, ne_eq, if_true, if_false, exA, exA, tabs, exB, exD, Zl, Zp, Ze, Zi, Zn, AV.isAggV, AV.parts, AV.one, AV.solid, Zf, Zb, Zj, Zc, Zk, Zh, Zg, bndA, lenA, Zd, rowOf, Za, intsOf, Zo, Nat.reduceAdd, Nat.reduceSub, Nat.reduceMul, Nat.reduceLeDiff, Nat.reduceLT, Nat.reduceGT, Int.reduceToNat, Int.reduceLE, Int.reduceLT, Int.reduceEq, Int.reduceNe, Int.reduceAdd, Int.reduceSub, Int.reduceMul, Int.reduceNeg, ite_true, ite_false, dite_true, xc10, xc11, xc12, xc13, xc14, xc15, xc16, xc17, xc20, xc21, xc22, xc23, zi5, Zm, hr, h] | simp (maxSteps := 1000000) (disch := omega) only [exE, Int.toNat_natCast, Int.reduceToNat])
  refine zjv (zn5 0) 7 (by kernel_rfl) fun R hR => ?_
  have h4 : ∀ x, (le4 x).length = 4 := fun x => rfl
  have ht4 : ∀ x, (le4 x).take 4 = le4 x := fun x => rfl
  have hw : IntKind.i64.wrap 1 = 1 ∧ IntKind.i64.wrap 2 = 2 ∧ IntKind.i64.wrap 3 = 3 ∧ IntKind.i64.wrap 4 = 4 ∧ IntKind.i64.wrap 5 = 5 ∧ IntKind.i64.wrap 6 = 6 := by decide
  obtain ⟨w1, w2, w3, w4, w5, w6⟩ := hw
  repeat (first | simp only [zfk, zbv, zdc, Nat.reduceBEq, reduceIte, Nat.reduceEqDiff, reduceCtorEq, ne_eq, if_true, if_false, exA, exA, tabs, exB, exD, Zl, Zp, Ze, Zi, Zn, AV.isAggV, AV.parts, AV.one, AV.solid, Zf, Zb, Zj, Zc, Zk, Zh, Zg, bndA, lenA, Zd, rowOf, Za, intsOf, Zo, Nat.reduceAdd, Nat.reduceSub, Nat.reduceMul, Nat.reduceLeDiff, Nat.reduceLT, Nat.reduceGT, Int.reduceToNat, Int.reduceLE, Int.reduceLT, Int.reduceEq, Int.reduceNe, Int.reduceAdd, Int.reduceSub, Int.reduceMul, Int.reduceNeg, ite_true, ite_false, dite_true, xc10, xc11, xc12, xc13, xc14, xc15, xc16, xc17, xc20, xc21, xc22, xc23, zi5, Zm, hr, hR, h, h4, ht4, w1] | simp (maxSteps := 1000000) (disch := omega) only [exE, Int.toNat_natCast, Int.reduceToNat])
  intro c1 _
  repeat (first | simp only [zfk, zbv, zdc, Nat.reduceBEq, reduceIte, Nat.reduceEqDiff, reduceCtorEq, ne_eq, if_true, if_false, exA, exA, tabs, exB, exD, Zl, Zp, Ze, Zi, Zn, AV.isAggV, AV.parts, AV.one, AV.solid, Zf, Zb, Zj, Zc, Zk, Zh, Zg, bndA, lenA, Zd, rowOf, Za, intsOf, Zo, Nat.reduceAdd, Nat.reduceSub, Nat.reduceMul, Nat.reduceLeDiff, Nat.reduceLT, Nat.reduceGT, Int.reduceToNat, Int.reduceLE, Int.reduceLT, Int.reduceEq, Int.reduceNe, Int.reduceAdd, Int.reduceSub, Int.reduceMul, Int.reduceNeg, ite_true, ite_false, dite_true, xc10, xc11, xc12, xc13, xc14, xc15, xc16, xc17, xc20, xc21, xc22, xc23, zi5, Zm, hr, hR, h, h4, ht4, w1, w2] | simp (maxSteps := 1000000) (disch := omega) only [exE, Int.toNat_natCast, Int.reduceToNat])
  intro c2 _
  repeat (first | simp only [zfk, zbv, zdc, Nat.reduceBEq, reduceIte, Nat.reduceEqDiff, reduceCtorEq, ne_eq, if_true, if_false, exA, exA, tabs, exB, exD, Zl, Zp, Ze, Zi, Zn, AV.isAggV, AV.parts, AV.one, AV.solid, Zf, Zb, Zj, Zc, Zk, Zh, Zg, bndA, lenA, Zd, rowOf, Za, intsOf, Zo, Nat.reduceAdd, Nat.reduceSub, Nat.reduceMul, Nat.reduceLeDiff, Nat.reduceLT, Nat.reduceGT, Int.reduceToNat, Int.reduceLE, Int.reduceLT, Int.reduceEq, Int.reduceNe, Int.reduceAdd, Int.reduceSub, Int.reduceMul, Int.reduceNeg, ite_true, ite_false, dite_true, xc10, xc11, xc12, xc13, xc14, xc15, xc16, xc17, xc20, xc21, xc22, xc23, zi5, Zm, hr, hR, h, h4, ht4, w3] | simp (maxSteps := 1000000) (disch := omega) only [exE, Int.toNat_natCast, Int.reduceToNat])
  intro c3 _
  repeat (first | simp only [zfk, zbv, zdc, Nat.reduceBEq, reduceIte, Nat.reduceEqDiff, reduceCtorEq, ne_eq, if_true, if_false, exA, exA, tabs, exB, exD, Zl, Zp, Ze, Zi, Zn, AV.isAggV, AV.parts, AV.one, AV.solid, Zf, Zb, Zj, Zc, Zk, Zh, Zg, bndA, lenA, Zd, rowOf, Za, intsOf, Zo, Nat.reduceAdd, Nat.reduceSub, Nat.reduceMul, Nat.reduceLeDiff, Nat.reduceLT, Nat.reduceGT, Int.reduceToNat, Int.reduceLE, Int.reduceLT, Int.reduceEq, Int.reduceNe, Int.reduceAdd, Int.reduceSub, Int.reduceMul, Int.reduceNeg, ite_true, ite_false, dite_true, xc10, xc11, xc12, xc13, xc14, xc15, xc16, xc17, xc20, xc21, xc22, xc23, zi5, Zm, hr, hR, h, h4, ht4, w4] | simp (maxSteps := 1000000) (disch := omega) only [exE, Int.toNat_natCast, Int.reduceToNat])
  intro c4 _
  repeat (first | simp only [zfk, zbv, zdc, Nat.reduceBEq, reduceIte, Nat.reduceEqDiff, reduceCtorEq, ne_eq, if_true, if_false, exA, exA, tabs, exB, exD, Zl, Zp, Ze, Zi, Zn, AV.isAggV, AV.parts, AV.one, AV.solid, Zf, Zb, Zj, Zc, Zk, Zh, Zg, bndA, lenA, Zd, rowOf, Za, intsOf, Zo, Nat.reduceAdd, Nat.reduceSub, Nat.reduceMul, Nat.reduceLeDiff, Nat.reduceLT, Nat.reduceGT, Int.reduceToNat, Int.reduceLE, Int.reduceLT, Int.reduceEq, Int.reduceNe, Int.reduceAdd, Int.reduceSub, Int.reduceMul, Int.reduceNeg, ite_true, ite_false, dite_true, xc10, xc11, xc12, xc13, xc14, xc15, xc16, xc17, xc20, xc21, xc22, xc23, zi5, Zm, hr, hR, h, h4, ht4, w5] | simp (maxSteps := 1000000) (disch := omega) only [exE, Int.toNat_natCast, Int.reduceToNat])
  intro c5 _
  repeat (first | simp only [zfk, zbv, zdc, Nat.reduceBEq, reduceIte, Nat.reduceEqDiff, reduceCtorEq, ne_eq, if_true, if_false, exA, exA, tabs, exB, exD, Zl, Zp, Ze, Zi, Zn, AV.isAggV, AV.parts, AV.one, AV.solid, Zf, Zb, Zj, Zc, Zk, Zh, Zg, bndA, lenA, Zd, rowOf, Za, intsOf, Zo, Nat.reduceAdd, Nat.reduceSub, Nat.reduceMul, Nat.reduceLeDiff, Nat.reduceLT, Nat.reduceGT, Int.reduceToNat, Int.reduceLE, Int.reduceLT, Int.reduceEq, Int.reduceNe, Int.reduceAdd, Int.reduceSub, Int.reduceMul, Int.reduceNeg, ite_true, ite_false, dite_true, xc10, xc11, xc12, xc13, xc14, xc15, xc16, xc17, xc20, xc21, xc22, xc23, zi5, Zm, hr, hR, h, h4, ht4, w6] | simp (maxSteps := 1000000) (disch := omega) only [exE, Int.toNat_natCast, Int.reduceToNat])
  intro c6 _
  repeat (first | simp only [zfk, zbv, zdc, Nat.reduceBEq, reduceIte, Nat.reduceEqDiff, reduceCtorEq, ne_eq, if_true, if_false, exA, exA, tabs, exB, exD, Zl, Zp, Ze, Zi, Zn, AV.isAggV, AV.parts, AV.one, AV.solid, Zf, Zb, Zj, Zc, Zk, Zh, Zg, bndA, lenA, Zd, rowOf, Za, intsOf, Zo, Nat.reduceAdd, Nat.reduceSub, Nat.reduceMul, Nat.reduceLeDiff, Nat.reduceLT, Nat.reduceGT, Int.reduceToNat, Int.reduceLE, Int.reduceLT, Int.reduceEq, Int.reduceNe, Int.reduceAdd, Int.reduceSub, Int.reduceMul, Int.reduceNeg, ite_true, ite_false, dite_true, xc10, xc11, xc12, xc13, xc14, xc15, xc16, xc17, xc20, xc21, xc22, xc23, zi5, Zm, hr, hR, h, h4, ht4] | simp (maxSteps := 1000000) (disch := omega) only [exE, Int.toNat_natCast, Int.reduceToNat])
  have e24 : (List.take 20 (List.take 16 (List.take 12 (List.take 8 (le4 l ++ le4 n) ++ le4 m) ++ le4 t) ++ le4 19) ++ le4 2) = le4 l ++ (le4 n ++ (le4 m ++ (le4 t ++ (le4 19 ++ le4 2)))) := rfl
  rw [e24]
  obtain ⟨T, hT⟩ : ∃ T, T = le4 l ++ (le4 n ++ (le4 m ++ (le4 t ++ (le4 19 ++ le4 2)))) := ⟨_, rfl⟩
  have hTl : T.length = 24 := by rw [hT]; rfl
  have hTt : T.take 24 = T := List.take_of_length_le (by omega)
  have hS : zjd n t m l a b c d = T ++ (le4 a.length ++ (a ++ (le4 b.length ++ (b ++ (le4 c.length ++ (c ++ (le4 d.length ++ d))))))) := by rw [hT]; simp only [zjd, List.append_assoc]
  rw [← hT]
  refine z5v (zn5 0) (L := [(5, .rop (.agg [.roI .u8 a, .roI .u8 b, .roI .u8 c, .roI .u8 d])), (8, .sl 14 0 1 0 24 c6)]) [1] [36, 40, 44, 48]
    (fun c0 => ⟨envL [(8, .sl 0 0 1 0 (zjd n t m l a b c d).length c0)], [some [.arr (zjd n t m l a b c d).length .u8 (zjd n t m l a b c d)]]⟩) ?_ ?_ (by kernel_rfl) ?_ ?_
  · intro p hp
    simp only [List.mem_cons, List.not_mem_nil, or_false] at hp
    rcases hp with rfl | rfl
    · exact Frz.agg (b := 1) (by simp) rfl (fun f => rfl)
    · exact Frz.same _
  · intro x hx
    simp only [List.mem_cons, List.not_mem_nil, or_false] at hx
    subst hx
    exact ⟨_, rfl⟩
  · show opsR (c23w 0) _ _ [] _ _
    simp only [kill]
    repeat (first | simp only [yc9, z7d, z9y, Nat.reduceBEq, reduceIte, Nat.reduceEqDiff, reduceCtorEq, ne_eq, if_true, if_false, exA, exA, tabs, exB, exD, Zl, Zp, Ze, Zi, Zn, AV.isAggV, AV.parts, AV.one, AV.solid, Zf, Zb, Zj, Zc, Zk, Zh, Zg, bndA, lenA, Zd, rowOf, Za, intsOf, Zo, Nat.reduceAdd, Nat.reduceSub, Nat.reduceMul, Nat.reduceLeDiff, Nat.reduceLT, Nat.reduceGT, Int.reduceToNat, Int.reduceLE, Int.reduceLT, Int.reduceEq, Int.reduceNe, Int.reduceAdd, Int.reduceSub, Int.reduceMul, Int.reduceNeg, ite_true, ite_false, dite_true, xc10, xc11, xc12, xc13, xc14, xc15, xc16, xc17, xc20, xc21, xc22, xc23, yds, Zm, hr, h4, hTl, hTt] | simp (maxSteps := 1000000) (disch := omega) only [exE, Int.toNat_natCast, Int.reduceToNat])
    refine ⟨by omega, fun c1 _ c2 _ => ⟨by omega, fun c3 _ c4 _ => ⟨by omega, fun c5 _ c6 _ => ⟨by omega, fun c7 _ c8 _ => ⟨c8, ?_⟩⟩⟩⟩⟩
    simp (maxSteps := 1000000) (disch := (simp only [List.length_append, h4, hTl]; omega)) only [List.take_of_length_le]
    (refine Z2 [22] (by decide) (by simp) (by rfl) ?_ ?_; (focus (first | with_reducible rfl | (simp only [List.map_cons, List.map_nil, List.cons_append, List.nil_append, List.getElem?_cons_zero, List.getElem?_cons_succ, renB, renL, Option.map_some, Option.map_none, AV.ren, Z4, List.getD_cons_zero, List.getD_cons_succ, hS, h4, hTl, hTt, List.length_append, List.append_assoc, List.take_left, Nat.add_assoc] <;> with_reducible rfl))); simp only [exF, List.map_cons, List.map_nil, List.length_cons, List.length_nil, Nat.reduceAdd, AV.ren, renL, Z4, Nat.reduceEqDiff, if_true, if_false, reduceIte, Option.some.injEq, reduceCtorEq, Int.cast_ofNat_Int, hS, h4, hTl, hTt, List.length_append, List.append_assoc, List.take_left, Nat.add_assoc])
  · intro c0
    repeat (first | simp only [zfk, zbv, zdc, Nat.reduceBEq, reduceIte, Nat.reduceEqDiff, reduceCtorEq, ne_eq, if_true, if_false, exA, exA, tabs, exB, exD, Zl, Zp, Ze, Zi, Zn, AV.isAggV, AV.parts, AV.one, AV.solid, Zf, Zb, Zj, Zc, Zk, Zh, Zg, bndA, lenA, Zd, rowOf, Za, intsOf, Zo, Nat.reduceAdd, Nat.reduceSub, Nat.reduceMul, Nat.reduceLeDiff, Nat.reduceLT, Nat.reduceGT, Int.reduceToNat, Int.reduceLE, Int.reduceLT, Int.reduceEq, Int.reduceNe, Int.reduceAdd, Int.reduceSub, Int.reduceMul, Int.reduceNeg, ite_true, ite_false, dite_true, xc10, xc11, xc12, xc13, xc14, xc15, xc16, xc17, xc20, xc21, xc22, xc23, zi5, Zm, hr] | simp (maxSteps := 1000000) (disch := omega) only [exE, Int.toNat_natCast, Int.reduceToNat])
    exact ⟨hSl, fun c1 _ => ⟨c1, rfl, _, rfl⟩⟩
end Go.Proofs.Ytfnfmbikooeiaaa
namespace Go.Proofs.Ytfnfmbikooeiaaa
open Go.Ax
theorem z3s (n t m l : Int) (a b c d : List Int) (h : okS n t m l a b c d = false) : Zs Try.prog 51 [.v (.int .i64 n), .agg [.v (.int .i64 t), .v (.int .i64 m), .v (.int .i64 l)], .agg [.roI .u8 a, .roI .u8 b, .roI .u8 c, .roI .u8 d]] [] fun v _ => v = .tup [.v (.slice none 0 0), .v (.int .i64 80)] := by
  by_cases k0 : 4 ≤ n
  rotate_left
  · refine Zq (zc6 0) Try.func51 rfl ⟨by kernel_rfl, by show 3 ≤ _; decide, by kernel_rfl, by kernel_rfl⟩ rfl ?_; have hr : Try.f51.results.toList = [.tmp 6, .tmp 7] := rfl
    repeat (first | simp only [zhz, zcp, zew, Nat.reduceBEq, reduceIte, Nat.reduceEqDiff, reduceCtorEq, ne_eq, if_true, if_false, exA, exA, tabs, exB, exD, Zl, Zp, Ze, Zi, Zn, AV.isAggV, AV.parts, AV.one, AV.solid, Zf, Zb, Zj, Zc, Zk, Zh, Zg, bndA, lenA, Zd, rowOf, Za, intsOf, Zo, Nat.reduceAdd, Nat.reduceSub, Nat.reduceMul, Nat.reduceLeDiff, Nat.reduceLT, Nat.reduceGT, Int.reduceToNat, Int.reduceLE, Int.reduceLT, Int.reduceEq, Int.reduceNe, Int.reduceAdd, Int.reduceSub, Int.reduceMul, Int.reduceNeg, ite_true, ite_false, dite_true, xc10, xc11, xc12, xc13, xc14, xc15, xc16, xc17, xc20, xc21, xc22, xc23, Zm, hr, Q7, Q6] | simp (maxSteps := 1000000) (disch := omega) only [exE, Int.toNat_natCast, Int.reduceToNat])
  by_cases k1 : n ≤ 128
  rotate_left
  · refine Zq (zc6 0) Try.func51 rfl ⟨by kernel_rfl, by show 3 ≤ _; decide, by kernel_rfl, by kernel_rfl⟩ rfl ?_; have hr : Try.f51.results.toList = [.tmp 6, .tmp 7] := rfl
    repeat (first | simp only [zhz, zcp, zew, Nat.reduceBEq, reduceIte, Nat.reduceEqDiff, reduceCtorEq, ne_eq, if_true, if_false, exA, exA, tabs, exB, exD, Zl, Zp, Ze, Zi, Zn, AV.isAggV, AV.parts, AV.one, AV.solid, Zf, Zb, Zj, Zc, Zk, Zh, Zg, bndA, lenA, Zd, rowOf, Za, intsOf, Zo, Nat.reduceAdd, Nat.reduceSub, Nat.reduceMul, Nat.reduceLeDiff, Nat.reduceLT, Nat.reduceGT, Int.reduceToNat, Int.reduceLE, Int.reduceLT, Int.reduceEq, Int.reduceNe, Int.reduceAdd, Int.reduceSub, Int.reduceMul, Int.reduceNeg, ite_true, ite_false, dite_true, xc10, xc11, xc12, xc13, xc14, xc15, xc16, xc17, xc20, xc21, xc22, xc23, Zm, hr, Q7, Q6] | simp (maxSteps := 1000000) (disch := omega) only [exE, Int.toNat_natCast, Int.reduceToNat])
  by_cases k2 : okP t m l = true
  rotate_left
  · have kb : okP t m l = false := by simpa using k2
    refine Zq (zc6 0) Try.func51 rfl ⟨by kernel_rfl, by show 3 ≤ _; decide, by kernel_rfl, by kernel_rfl⟩ rfl ?_; have hr : Try.f51.results.toList = [.tmp 6, .tmp 7] := rfl
    repeat (first | simp only [zhz, zcp, zew, Nat.reduceBEq, reduceIte, Nat.reduceEqDiff, reduceCtorEq, ne_eq, if_true, if_false, exA, exA, tabs, exB, exD, Zl, Zp, Ze, Zi, Zn, AV.isAggV, AV.parts, AV.one, AV.solid, Zf, Zb, Zj, Zc, Zk, Zh, Zg, bndA, lenA, Zd, rowOf, Za, intsOf, Zo, Nat.reduceAdd, Nat.reduceSub, Nat.reduceMul, Nat.reduceLeDiff, Nat.reduceLT, Nat.reduceGT, Int.reduceToNat, Int.reduceLE, Int.reduceLT, Int.reduceEq, Int.reduceNe, Int.reduceAdd, Int.reduceSub, Int.reduceMul, Int.reduceNeg, ite_true, ite_false, dite_true, xc10, xc11, xc12, xc13, xc14, xc15, xc16, xc17, xc20, xc21, xc22, xc23, Zm, hr, Q7, Q6, kb] | simp (maxSteps := 1000000) (disch := omega) only [exE, Int.toNat_natCast, Int.reduceToNat])
  by_cases k3 : a.length ≤ 512
  rotate_left
  · refine Zq (zc6 0) Try.func51 rfl ⟨by kernel_rfl, by show 3 ≤ _; decide, by kernel_rfl, by kernel_rfl⟩ rfl ?_; have hr : Try.f51.results.toList = [.tmp 6, .tmp 7] := rfl
    repeat (first | simp only [zhz, zcp, zew, Nat.reduceBEq, reduceIte, Nat.reduceEqDiff, reduceCtorEq, ne_eq, if_true, if_false, exA, exA, tabs, exB, exD, Zl, Zp, Ze, Zi, Zn, AV.isAggV, AV.parts, AV.one, AV.solid, Zf, Zb, Zj, Zc, Zk, Zh, Zg, bndA, lenA, Zd, rowOf, Za, intsOf, Zo, Nat.reduceAdd, Nat.reduceSub, Nat.reduceMul, Nat.reduceLeDiff, Nat.reduceLT, Nat.reduceGT, Int.reduceToNat, Int.reduceLE, Int.reduceLT, Int.reduceEq, Int.reduceNe, Int.reduceAdd, Int.reduceSub, Int.reduceMul, Int.reduceNeg, ite_true, ite_false, dite_true, xc10, xc11, xc12, xc13, xc14, xc15, xc16, xc17, xc20, xc21, xc22, xc23, Zm, hr, Q7, Q6, k2] | simp (maxSteps := 1000000) (disch := omega) only [exE, Int.toNat_natCast, Int.reduceToNat])
  by_cases k4 : 8 ≤ b.length
  rotate_left
  · refine Zq (zc6 0) Try.func51 rfl ⟨by kernel_rfl, by show 3 ≤ _; decide, by kernel_rfl, by kernel_rfl⟩ rfl ?_; have hr : Try.f51.results.toList = [.tmp 6, .tmp 7] := rfl
    repeat (first | simp only [zhz, zcp, zew, Nat.reduceBEq, reduceIte, Nat.reduceEqDiff, reduceCtorEq, ne_eq, if_true, if_false, exA, exA, tabs, exB, exD, Zl, Zp, Ze, Zi, Zn, AV.isAggV, AV.parts, AV.one, AV.solid, Zf, Zb, Zj, Zc, Zk, Zh, Zg, bndA, lenA, Zd, rowOf, Za, intsOf, Zo, Nat.reduceAdd, Nat.reduceSub, Nat.reduceMul, Nat.reduceLeDiff, Nat.reduceLT, Nat.reduceGT, Int.reduceToNat, Int.reduceLE, Int.reduceLT, Int.reduceEq, Int.reduceNe, Int.reduceAdd, Int.reduceSub, Int.reduceMul, Int.reduceNeg, ite_true, ite_false, dite_true, xc10, xc11, xc12, xc13, xc14, xc15, xc16, xc17, xc20, xc21, xc22, xc23, Zm, hr, Q7, Q6, k2] | simp (maxSteps := 1000000) (disch := omega) only [exE, Int.toNat_natCast, Int.reduceToNat])
  by_cases k5 : b.length ≤ 64
  rotate_left
  · refine Zq (zc6 0) Try.func51 rfl ⟨by kernel_rfl, by show 3 ≤ _; decide, by kernel_rfl, by kernel_rfl⟩ rfl ?_; have hr : Try.f51.results.toList = [.tmp 6, .tmp 7] := rfl
    repeat (first | simp only [zhz, zcp, zew, Nat.reduceBEq, reduceIte, Nat.reduceEqDiff, reduceCtorEq, ne_eq, if_true, if_false, exA, exA, tabs, exB, exD, Zl, Zp, Ze, Zi, Zn, AV.isAggV, AV.parts, AV.one, AV.solid, Zf, Zb, Zj, Zc, Zk, Zh, Zg, bndA, lenA, Zd, rowOf, Za, intsOf, Zo, Nat.reduceAdd, Nat.reduceSub, Nat.reduceMul, Nat.reduceLeDiff, Nat.reduceLT, Nat.reduceGT, Int.reduceToNat, Int.reduceLE, Int.reduceLT, Int.reduceEq, Int.reduceNe, Int.reduceAdd, Int.reduceSub, Int.reduceMul, Int.reduceNeg, ite_true, ite_false, dite_true, xc10, xc11, xc12, xc13, xc14, xc15, xc16, xc17, xc20, xc21, xc22, xc23, Zm, hr, Q7, Q6, k2] | simp (maxSteps := 1000000) (disch := omega) only [exE, Int.toNat_natCast, Int.reduceToNat])
  by_cases k6 : c.length ≤ 64
  rotate_left
  · refine Zq (zc6 0) Try.func51 rfl ⟨by kernel_rfl, by show 3 ≤ _; decide, by kernel_rfl, by kernel_rfl⟩ rfl ?_; have hr : Try.f51.results.toList = [.tmp 6, .tmp 7] := rfl
    repeat (first | simp only [zhz, zcp, zew, Nat.reduceBEq, reduceIte, Nat.reduceEqDiff, reduceCtorEq, ne_eq, if_true, if_false, exA, exA, tabs, exB, exD, Zl, Zp, Ze, Zi, Zn, AV.isAggV, AV.parts, AV.one, AV.solid, Zf, Zb, Zj, Zc, Zk, Zh, Zg, bndA, lenA, Zd, rowOf, Za, intsOf, Zo, Nat.reduceAdd, Nat.reduceSub, Nat.reduceMul, Nat.reduceLeDiff, Nat.reduceLT, Nat.reduceGT, Int.reduceToNat, Int.reduceLE, Int.reduceLT, Int.reduceEq, Int.reduceNe, Int.reduceAdd, Int.reduceSub, Int.reduceMul, Int.reduceNeg, ite_true, ite_false, dite_true, xc10, xc11, xc12, xc13, xc14, xc15, xc16, xc17, xc20, xc21, xc22, xc23, Zm, hr, Q7, Q6, k2] | simp (maxSteps := 1000000) (disch := omega) only [exE, Int.toNat_natCast, Int.reduceToNat])
  by_cases k7 : d.length ≤ 64
  rotate_left
  · refine Zq (zc6 0) Try.func51 rfl ⟨by kernel_rfl, by show 3 ≤ _; decide, by kernel_rfl, by kernel_rfl⟩ rfl ?_; have hr : Try.f51.results.toList = [.tmp 6, .tmp 7] := rfl
    repeat (first | simp only [zhz, zcp, zew, Nat.reduceBEq, reduceIte, Nat.reduceEqDiff, reduceCtorEq, ne_eq, if_true, if_false, exA, exA, tabs, exB, exD, Zl, Zp, Ze, Zi, Zn, AV.isAggV, AV.parts, AV.one, AV.solid, Zf, Zb, Zj, Zc, Zk, Zh, Zg, bndA, lenA, Zd, rowOf, Za, intsOf, Zo, Nat.reduceAdd, Nat.reduceSub, Nat.reduceMul, Nat.reduceLeDiff, Nat.reduceLT, Nat.reduceGT, Int.reduceToNat, Int.reduceLE, Int.reduceLT, Int.reduceEq, Int.reduceNe, Int.reduceAdd, Int.reduceSub, Int.reduceMul, Int.reduceNeg, ite_true, ite_false, dite_true, xc10, xc11, xc12, xc13, xc14, xc15, xc16, xc17, xc20, xc21, xc22, xc23, Zm, hr, Q7, Q6, k2] | simp (maxSteps := 1000000) (disch := omega) only [exE, Int.toNat_natCast, Int.reduceToNat])
  exact absurd h (by simp [okS, k0, k1, k2, k3, k4, k5, k6, k7])
theorem z34 {C : Cfg} (hk : C.k = 0) {v v2 : AV} {h : List Blk} {b : Blk} (n : Nat) (hn : n < h.length) (hb : h[n]? = some (renB (Z4 [n] h.length) b)) (hv : v = v2.ren (Z4 [n] h.length)) :
    Weak C ⟨envL [(0, v)], h⟩ ⟨envL [(0, v2)], [b]⟩ := by
  refine Z2 [n] (by simp) (by simpa using hn) (by simp [hk]) (by simp [hb]) ?_
  simp only [List.map_cons, List.map_nil, Jl, J6, Qq, Ja, reduceIte, and_true]
  exact hv
theorem z7u (n t m l : Int) (a b c d : List Int) (h : okS n t m l a b c d = true) : Zs Try.prog 51 [.v (.int .i64 n), .agg [.v (.int .i64 t), .v (.int .i64 m), .v (.int .i64 l)], .agg [.roI .u8 a, .roI .u8 b, .roI .u8 c, .roI .u8 d]] [] fun v h' => ∃ c0, v = .tup [.sl 0 0 1 0 64 c0, .v (.int .i64 0)] ∧ h' = [some [.arr 64 .u8 (za4 n t m l a b c d)]] := by
  obtain ⟨k0, k1, k2, k3, k4, k5, k6, k7⟩ := zn1.1 h
  refine Zs.weak (C := c23 0) rfl (κ := fun v h' => v = .tup [.sl 32 0 1 0 64 64, .v (.int .i64 0)] ∧ 32 < h'.length ∧ h'[32]? = some (some [.arr 64 .u8 (za4 n t m l a b c d)])) ?_ ?_
  case refine_2 =>
    rintro v h' ⟨rfl, h1, h2⟩
    exact ⟨.tup [.sl 0 0 1 0 64 64, .v (.int .i64 0)], [some [.arr 64 .u8 (za4 n t m l a b c d)]], z34 rfl 32 h1 h2 rfl, 64, rfl, rfl⟩
  refine Zq (zc6 0) Try.func51 rfl ⟨by kernel_rfl, by show 3 ≤ _; decide, by kernel_rfl, by kernel_rfl⟩ rfl ?_; have hr : Try.f51.results.toList = [.tmp 6, .tmp 7] := rfl
  repeat (first | simp only [zhz, zcp, zew, Nat.reduceBEq, reduceIte, Nat.reduceEqDiff, reduceCtorEq, ne_eq, if_true, if_false, exA, exA, tabs, exB, exD, Zl, Zp, Ze, Zi, Zn, AV.isAggV, AV.parts, AV.one, AV.solid, Zf, Zb, Zj, Zc, Zk, Zh, Zg, bndA, lenA, Zd, rowOf, Za, intsOf, Zo, Nat.reduceAdd, Nat.reduceSub, Nat.reduceMul, Nat.reduceLeDiff, Nat.reduceLT, Nat.reduceGT, Int.reduceToNat, Int.reduceLE, Int.reduceLT, Int.reduceEq, Int.reduceNe, Int.reduceAdd, Int.reduceSub, Int.reduceMul, Int.reduceNeg, ite_true, ite_false, dite_true, xc10, xc11, xc12, xc13, xc14, xc15, xc16, xc17, xc20, xc21, xc22, xc23, Zm, hr, Q7, Q6, k2] | simp (maxSteps := 1000000) (disch := omega) only [exE, Int.toNat_natCast, Int.reduceToNat])
  refine zjv (zc6 0) 7 (by kernel_rfl) fun R hR => ?_
  have h4 : ∀ x, (le4 x).length = 4 := fun x => rfl
  have ht4 : ∀ x, (le4 x).take 4 = le4 x := fun x => rfl
  have hw : IntKind.i64.wrap 1 = 1 ∧ IntKind.i64.wrap 2 = 2 ∧ IntKind.i64.wrap 3 = 3 ∧ IntKind.i64.wrap 4 = 4 ∧ IntKind.i64.wrap 5 = 5 ∧ IntKind.i64.wrap 6 = 6 := by decide
  obtain ⟨w1, w2, w3, w4, w5, w6⟩ := hw
  repeat (first | simp only [zhz, zcp, zew, Nat.reduceBEq, reduceIte, Nat.reduceEqDiff, reduceCtorEq, ne_eq, if_true, if_false, exA, exA, tabs, exB, exD, Zl, Zp, Ze, Zi, Zn, AV.isAggV, AV.parts, AV.one, AV.solid, Zf, Zb, Zj, Zc, Zk, Zh, Zg, bndA, lenA, Zd, rowOf, Za, intsOf, Zo, Nat.reduceAdd, Nat.reduceSub, Nat.reduceMul, Nat.reduceLeDiff, Nat.reduceLT, Nat.reduceGT, Int.reduceToNat, Int.reduceLE, Int.reduceLT, Int.reduceEq, Int.reduceNe, Int.reduceAdd, Int.reduceSub, Int.reduceMul, Int.reduceNeg, ite_true, ite_false, dite_true, xc10, xc11, xc12, xc13, xc14, xc15, xc16, xc17, xc20, xc21, xc22, xc23, Zm, hr, hR, h4, ht4, w1, w2, w3, w4, w5, w6] | simp (maxSteps := 1000000) (disch := omega) only [exE, Int.toNat_natCast, Int.reduceToNat])
  intro c1 _ c2 _ c3 _ c4 _ c5 _ c6 _
  refine zjv (zc6 0) 5 (by kernel_rfl) fun R2 hR2 => ?_
  repeat (first | simp only [zhz, zcp, zew, Nat.reduceBEq, reduceIte, Nat.reduceEqDiff, reduceCtorEq, ne_eq, if_true, if_false, exA, exA, tabs, exB, exD, Zl, Zp, Ze, Zi, Zn, AV.isAggV, AV.parts, AV.one, AV.solid, Zf, Zb, Zj, Zc, Zk, Zh, Zg, bndA, lenA, Zd, rowOf, Za, intsOf, Zo, Nat.reduceAdd, Nat.reduceSub, Nat.reduceMul, Nat.reduceLeDiff, Nat.reduceLT, Nat.reduceGT, Int.reduceToNat, Int.reduceLE, Int.reduceLT, Int.reduceEq, Int.reduceNe, Int.reduceAdd, Int.reduceSub, Int.reduceMul, Int.reduceNeg, ite_true, ite_false, dite_true, xc10, xc11, xc12, xc13, xc14, xc15, xc16, xc17, xc20, xc21, xc22, xc23, Zm, hr, hR2, h4, ht4, w1, w2, w3, w4, w5, w6] | simp (maxSteps := 1000000) (disch := omega) only [exE, Int.toNat_natCast, Int.reduceToNat])
  intro c7 _ c8 _ c9 _ c10 _
  refine ⟨by omega, ?_⟩
  rfl
end Go.Proofs.Ytfnfmbikooeiaaa
namespace Go.Proofs.Ytfnfmbikooeiaaa
open Go.Ax
def N51 (h : List Blk) : List AV → Option Out
  | [.v (.int .i64 n), .agg [.v (.int .i64 t), .v (.int .i64 m), .v (.int .i64 l)], .agg [x, y, z, u]] =>
    (u8Of h x).bind fun a => (u8Of h y).bind fun b => (u8Of h z).bind fun c => (u8Of h u).bind fun d =>
      osel (okS n t m l a b c d) (some (.cap 0 fun k => (.tup [.sl h.length 0 1 0 64 k, .v (.int .i64 0)], h ++ [some [.arr 64 .u8 (za4 n t m l a b c d)]])))
        (some (.one (.tup [.v (.slice none 0 0), .v (.int .i64 80)]) h))
  | _ => none
theorem ym5 (h : List Blk) (n t m l : Int) (x y z u : AV) : N51 h [.v (.int .i64 n), .agg [.v (.int .i64 t), .v (.int .i64 m), .v (.int .i64 l)], .agg [x, y, z, u]] =
    (u8Of h x).bind fun a => (u8Of h y).bind fun b => (u8Of h z).bind fun c => (u8Of h u).bind fun d =>
      osel (okS n t m l a b c d) (some (.cap 0 fun k => (.tup [.sl h.length 0 1 0 64 k, .v (.int .i64 0)], h ++ [some [.arr 64 .u8 (za4 n t m l a b c d)]])))
        (some (.one (.tup [.v (.slice none 0 0), .v (.int .i64 80)]) h)) := rfl
noncomputable def n24 : FuncId → Option (List Blk → List AV → Option Out) := Qz (Qz n22 51 N51) 52 N51
noncomputable def c24 (k : Nat) : Cfg := ⟨Try.prog, k, p23, [], n24, none, []⟩
theorem z9x (k : Nat) : (c24 k).odd = [] := rfl
theorem yc8 (k : Nat) : (c24 k).ro = [] := rfl
theorem yl6 (k : Nat) : (c24 k).P = Try.prog := rfl
theorem yl4 (k : Nat) : (c24 k).pure = p23 := rfl
theorem yl5 (k : Nat) : (c24 k).news = n24 := rfl
theorem xc24 :
  (type_of% @Go.Proofs.Ytfnfmbikooeiaaa.yl4) ∧
  (type_of% @Go.Proofs.Ytfnfmbikooeiaaa.yl5) ∧
  (type_of% @Go.Proofs.Ytfnfmbikooeiaaa.n24.eq_1) ∧
  (type_of% @Go.Proofs.Ytfnfmbikooeiaaa.ym5) :=
  ⟨@Go.Proofs.Ytfnfmbikooeiaaa.yl4, @Go.Proofs.Ytfnfmbikooeiaaa.yl5, @Go.Proofs.Ytfnfmbikooeiaaa.n24.eq_1, @Go.Proofs.Ytfnfmbikooeiaaa.ym5⟩
theorem zh6 {C : Cfg} (hk : C.k = 0) {v v2 : AV} {h : List Blk} (hv : v = v2.ren (Z4 [] h.length)) : Weak C ⟨envL [(0, v)], h⟩ ⟨envL [(0, v2)], []⟩ := by
  refine Z2 [] (by simp) (by simp) (by simp [hk]) (by simp) ?_
  simp only [List.map_cons, List.map_nil, Jl, J6, Qq, Ja, reduceIte, and_true]
  exact hv
theorem z0k {f : FuncId} {args : List AV} (h : Zs Try.prog f args [] fun v _ => v = .tup [.v (.slice none 0 0), .v (.int .i64 80)]) : Zs Try.prog f args [] fun v h' => v = .tup [.v (.slice none 0 0), .v (.int .i64 80)] ∧ h' = [] := by
  refine Zs.weak (C := c24 0) rfl h ?_
  rintro v h' rfl
  exact ⟨_, [], zh6 rfl rfl, rfl, rfl⟩
theorem zu6 {f : FuncId} (bad : ∀ (n t m l : Int) (a b c d : List Int), okS n t m l a b c d = false → Zs Try.prog f [.v (.int .i64 n), .agg [.v (.int .i64 t), .v (.int .i64 m), .v (.int .i64 l)], .agg [.roI .u8 a, .roI .u8 b, .roI .u8 c, .roI .u8 d]] [] fun v h' => v = .tup [.v (.slice none 0 0), .v (.int .i64 80)] ∧ h' = [])
    (ok : ∀ (n t m l : Int) (a b c d : List Int), okS n t m l a b c d = true → Zs Try.prog f [.v (.int .i64 n), .agg [.v (.int .i64 t), .v (.int .i64 m), .v (.int .i64 l)], .agg [.roI .u8 a, .roI .u8 b, .roI .u8 c, .roI .u8 d]] [] fun v h' => ∃ c0, v = .tup [.sl 0 0 1 0 64 c0, .v (.int .i64 0)] ∧ h' = [some [.arr 64 .u8 (za4 n t m l a b c d)]]) :
    ∀ (h : List Blk) (args : List AV) (out : Out), N51 h args = some out → (out.all fun _ h' => ∃ ext, h' = h ++ ext) ∧ ∀ κ, out.all κ → Zs Try.prog f args h κ := by
  intro h args out hN
  unfold N51 at hN
  split at hN
  · rename_i n t m l x y z u
    obtain ⟨a, ha, hN⟩ := Option.bind_eq_some_iff.1 hN
    obtain ⟨b, hb, hN⟩ := Option.bind_eq_some_iff.1 hN
    obtain ⟨c, hc, hN⟩ := Option.bind_eq_some_iff.1 hN
    obtain ⟨d, hd, hN⟩ := Option.bind_eq_some_iff.1 hN
    cases hk : okS n t m l a b c d with
    | true =>
      rw [zcj hk] at hN
      cases hN
      refine ⟨fun c _ => ⟨_, rfl⟩, fun κ hκ => Ql (args := [.v (.int .i64 n), .agg [.v (.int .i64 t), .v (.int .i64 m), .v (.int .i64 l)], .agg [x, y, z, u]]) (ok n t m l a b c d hk) (by rintro _ _ ⟨c, rfl, rfl⟩; exact ⟨rfl, rfl⟩) (fun g => rfl) ⟨Frz.same _, Frz.same _, znt ha hb hc hd, trivial⟩ ?_ hκ⟩
      rintro _ _ ⟨c0, rfl, rfl⟩
      exact ⟨c0, Nat.zero_le _, rfl⟩
    | false =>
      rw [zck hk] at hN
      cases hN
      refine ⟨⟨[], by simp⟩, fun κ hκ => Ql (args := [.v (.int .i64 n), .agg [.v (.int .i64 t), .v (.int .i64 m), .v (.int .i64 l)], .agg [x, y, z, u]]) (bad n t m l a b c d hk) (by rintro _ _ ⟨rfl, rfl⟩; exact ⟨rfl, rfl⟩) (fun g => rfl) ⟨Frz.same _, Frz.same _, znt ha hb hc hd, trivial⟩ ?_ hκ⟩
      rintro _ _ ⟨rfl, rfl⟩
      exact ⟨rfl, by simp⟩
  · cases hN
theorem z6m (k : Nat) : (c24 k).Good :=
  Cfg.Good.addN (Cfg.Good.addN (zc6 k) (zu6 (fun n t m l a b c d h => z0k (z3s n t m l a b c d h)) z7u) k) (zu6 (fun n t m l a b c d h => z0k (z2k n t m l a b c d h)) z5d) k
end Go.Proofs.Ytfnfmbikooeiaaa
namespace Go.Proofs.Ytfnfmbikooeiaaa
open Go.Ax
def adrZ (pass slice lane i t l part : Nat) : List Int := [(pass : Int), (lane : Int), (slice : Int), ((4 * part * l : Nat) : Int), (t : Int), 2, ((i / 128 + 1 : Nat) : Int)] ++ List.replicate 121 0
def zzp : List Int := List.replicate 128 0
def adrL (pass slice lane i t l part : Nat) : List Int := Ys zzp (Ys zzp (adrZ pass slice lane i t l part))
theorem zqy (pass slice lane i t l part : Nat) (m : Int) (h1 : pass ≤ 8) (h2 : slice ≤ 4) (h3 : lane ≤ 4) (h4 : i ≤ 256) (h5 : t ≤ 8) (h6 : l ≤ 4) (h7 : part ≤ 256) :
    Zs Try.prog 76 [.rop (.agg [.v (.int .i64 t), .v (.int .i64 m), .v (.int .i64 l), .any, .v (.int .i64 part)]), .agg [.v (.int .i64 pass), .v (.int .i64 slice), .v (.int .i64 lane), .v (.int .i64 i)]] [] fun v _ => v = .arr 128 .u64 (adrL pass slice lane i t l part) := by
  have w1 : IntKind.u64.wrap (pass : Int) = pass := zae _ (by omega)
  have w2 : IntKind.u64.wrap (lane : Int) = lane := zae _ (by omega)
  have w3 : IntKind.u64.wrap (slice : Int) = slice := zae _ (by omega)
  have hpl : 4 * part * l ≤ 4 * 256 * 4 := Nat.mul_le_mul (by omega) h6
  have w4 : IntKind.i64.wrap (((4 * part : Nat) : Int) * (l : Int)) = ((4 * part * l : Nat) : Int) := by rw [← Int.natCast_mul]; exact Zz _ (by omega)
  have w5 : IntKind.u64.wrap ((4 * part * l : Nat) : Int) = ((4 * part * l : Nat) : Int) := zae _ (by omega)
  have w6 : IntKind.u64.wrap (t : Int) = t := zae _ (by omega)
  have w7 : IntKind.u64.wrap (((i / 128 : Nat) : Int) + 1) = ((i / 128 + 1 : Nat) : Int) := zae (i / 128 + 1) (by omega)
  have w8 : IntKind.u64.wrap ((i / 128 + 1 : Nat) : Int) = ((i / 128 + 1 : Nat) : Int) := zae _ (by omega)
  refine Zq (z6m 0) Try.func76 rfl ⟨by kernel_rfl, by show 2 ≤ _; decide, by kernel_rfl, by kernel_rfl⟩ rfl ?_; have hr : Try.f76.results.toList = [.cell 4 53] := rfl
  repeat (first | simp only [yl6, z9x, yc8, Nat.reduceBEq, reduceIte, Nat.reduceEqDiff, reduceCtorEq, ne_eq, if_true, if_false, exA, exA, tabs, exB, exD, Zl, Zp, Ze, Zi, Zn, AV.isAggV, AV.parts, AV.one, AV.solid, Zf, Zb, Zj, Zc, Zk, Zh, Zg, bndA, lenA, Zd, rowOf, Za, intsOf, Zo, Nat.reduceAdd, Nat.reduceSub, Nat.reduceMul, Nat.reduceLeDiff, Nat.reduceLT, Nat.reduceGT, Int.reduceToNat, Int.reduceLE, Int.reduceLT, Int.reduceEq, Int.reduceNe, Int.reduceAdd, Int.reduceSub, Int.reduceMul, Int.reduceNeg, ite_true, ite_false, dite_true, xc10, xc11, xc12, xc13, xc14, xc15, xc16, xc17, xc20, xc21, xc22, xc23, xc24, Zm, hr, w1, w2, w3, w4, w5, w6, w7, w8] | simp (maxSteps := 1000000) (disch := omega) only [exE, Int.toNat_natCast, Int.reduceToNat])
  rw [show List.take 128 ((((((((List.replicate 128 (0 : Int)).set 0 ↑pass).set 1 ↑lane).set 2 ↑slice).set 3 ↑(4 * part * l)).set 4 ↑t).set 5 2).set 6 ↑(i / 128 + 1)) = adrZ pass slice lane i t l part from rfl]
  have hl : (Ys (List.replicate 128 0) (adrZ pass slice lane i t l part)).length = 128 := by rw [zao, List.length_replicate]
  refine ⟨hl, ?_⟩
  rw [List.take_of_length_le (by rw [zao, List.length_replicate]; omega)]
  rfl
def adrK (pass slice lane i : Int) (h : List Blk) : List AV → Option Out
  | [.v (.int .i64 t), .v (.int .i64 _), .v (.int .i64 l), .sl _ _ _ _ _ _, .v (.int .i64 part)] =>
      Zu ((0 ≤ pass ∧ pass ≤ 8) ∧ (0 ≤ slice ∧ slice ≤ 4) ∧ (0 ≤ lane ∧ lane ≤ 4) ∧ (0 ≤ i ∧ i ≤ 256) ∧ (0 ≤ t ∧ t ≤ 8) ∧ (0 ≤ l ∧ l ≤ 4) ∧ (0 ≤ part ∧ part ≤ 256)) (some (.one (.arr 128 .u64 (adrL pass.toNat slice.toNat lane.toNat i.toNat t.toNat l.toNat part.toNat)) h))
  | _ => none
theorem z1r (pass slice lane i t m l part : Int) (b base sz off len cap : Nat) (h : List Blk) : adrK pass slice lane i h [.v (.int .i64 t), .v (.int .i64 m), .v (.int .i64 l), .sl b base sz off len cap, .v (.int .i64 part)] =
    Zu ((0 ≤ pass ∧ pass ≤ 8) ∧ (0 ≤ slice ∧ slice ≤ 4) ∧ (0 ≤ lane ∧ lane ≤ 4) ∧ (0 ≤ i ∧ i ≤ 256) ∧ (0 ≤ t ∧ t ≤ 8) ∧ (0 ≤ l ∧ l ≤ 4) ∧ (0 ≤ part ∧ part ≤ 256)) (some (.one (.arr 128 .u64 (adrL pass.toNat slice.toNat lane.toNat i.toNat t.toNat l.toNat part.toNat)) h)) := rfl
def N76 (h : List Blk) : List AV → Option Out
  | [.ptr b 0 0, .agg [.v (.int .i64 pass), .v (.int .i64 slice), .v (.int .i64 lane), .v (.int .i64 i)]] => (row h b).bind (adrK pass slice lane i h)
  | _ => none
theorem ym0 (h : List Blk) (b : Nat) (pass slice lane i : Int) : N76 h [.ptr b 0 0, .agg [.v (.int .i64 pass), .v (.int .i64 slice), .v (.int .i64 lane), .v (.int .i64 i)]] = (row h b).bind (adrK pass slice lane i h) := rfl
theorem z96 (h : List Blk) (args : List AV) (out : Out) (hN : N76 h args = some out) : (out.all fun _ h' => ∃ ext, h' = h ++ ext) ∧ ∀ κ, out.all κ → Zs Try.prog 76 args h κ := by
  unfold N76 at hN
  split at hN
  · rename_i b pass slice lane i
    obtain ⟨ps, hrow, hN⟩ := Option.bind_eq_some_iff.1 hN
    unfold adrK at hN
    split at hN
    · rename_i t m l c1 c2 c3 c4 c5 c6 part
      obtain ⟨⟨h1, h2, h3, h4, h5, h6, h7⟩, hN⟩ := Zt hN
      cases hN
      obtain ⟨pass, rfl⟩ := Int.eq_ofNat_of_zero_le h1.1
      obtain ⟨slice, rfl⟩ := Int.eq_ofNat_of_zero_le h2.1
      obtain ⟨lane, rfl⟩ := Int.eq_ofNat_of_zero_le h3.1
      obtain ⟨i, rfl⟩ := Int.eq_ofNat_of_zero_le h4.1
      obtain ⟨t, rfl⟩ := Int.eq_ofNat_of_zero_le h5.1
      obtain ⟨l, rfl⟩ := Int.eq_ofNat_of_zero_le h6.1
      obtain ⟨part, rfl⟩ := Int.eq_ofNat_of_zero_le h7.1
      have hs : Zs Try.prog 76 [.rop (.agg [.v (.int .i64 (t : Nat)), .v (.int .i64 m), .v (.int .i64 (l : Nat)), .any, .v (.int .i64 (part : Nat))]), .agg [.v (.int .i64 (pass : Nat)), .v (.int .i64 (slice : Nat)), .v (.int .i64 (lane : Nat)), .v (.int .i64 (i : Nat))]] [] fun v h' => v = .arr 128 .u64 (adrL pass slice lane i t l part) ∧ h' = [] := by
        refine Zs.weak (C := c24 0) rfl (zqy pass slice lane i t l part m (by omega) (by omega) (by omega) (by omega) (by omega) (by omega) (by omega)) ?_
        rintro v h' rfl
        exact ⟨_, [], zh6 rfl rfl, rfl, rfl⟩
      refine ⟨⟨[], by simp⟩, fun κ hκ => Ql (args := [.ptr b 0 0, .agg [.v (.int .i64 (pass : Nat)), .v (.int .i64 (slice : Nat)), .v (.int .i64 (lane : Nat)), .v (.int .i64 (i : Nat))]]) hs (by rintro _ _ ⟨rfl, rfl⟩; exact ⟨rfl, rfl⟩) (fun g => rfl)
        ⟨Frz.aggAny (List.mem_range.2 (zhh hrow)) hrow ⟨.inl rfl, .inl rfl, .inl rfl, .inr ⟨rfl, rfl⟩, .inl rfl, trivial⟩ (fun f => rfl), Frz.same _, trivial⟩ ?_ hκ⟩
      rintro _ _ ⟨rfl, rfl⟩
      exact ⟨rfl, by simp⟩
    · cases hN
  · cases hN
end Go.Proofs.Ytfnfmbikooeiaaa
namespace Go.Proofs.Ytfnfmbikooeiaaa
open Go.Ax
noncomputable def n25 : FuncId → Option (List Blk → List AV → Option Out) := Qz n24 76 N76
noncomputable def c25 (k : Nat) : Cfg := ⟨Try.prog, k, p23, [], n25, none, []⟩
theorem zgs (k : Nat) : (c25 k).odd = [] := rfl
theorem zj5 (k : Nat) : (c25 k).ro = [] := rfl
theorem zqm (k : Nat) : (c25 k).P = Try.prog := rfl
theorem yl2 (k : Nat) : (c25 k).pure = p23 := rfl
theorem yl3 (k : Nat) : (c25 k).news = n25 := rfl
theorem xc25 :
  (type_of% @Go.Proofs.Ytfnfmbikooeiaaa.yl2) ∧
  (type_of% @Go.Proofs.Ytfnfmbikooeiaaa.yl3) ∧
  (type_of% @Go.Proofs.Ytfnfmbikooeiaaa.n25.eq_1) :=
  ⟨@Go.Proofs.Ytfnfmbikooeiaaa.yl2, @Go.Proofs.Ytfnfmbikooeiaaa.yl3, @Go.Proofs.Ytfnfmbikooeiaaa.n25.eq_1⟩
theorem zhq (k : Nat) : (c25 k).Good := Cfg.Good.addN (z6m k) z96 k
def Yx (f : List Int) (i : Nat) : List Int := (f.drop (i * 128)).take 128
def zwl (n : Nat) (f : List Int) : AV := .roL 128 ((List.range n).map fun i => .arr 128 .u64 (Yx f i))
def zt0 (n : Nat) (fs : List (List Int)) : AV := .roL 1 (fs.map (zwl n))
def zaf (pass slice lane l w : Nat) : Nat := if pass = 0 ∧ slice = 0 then lane else w / 4294967296 % l
def zeq (pass slice lane i part l w : Nat) : Nat :=
  let d := if 0 < pass then 3 * part else slice * part
  if zaf pass slice lane l w = lane then d + i - 1 else if i = 0 then d - 1 else d
def zcl (pass slice part : Nat) : Nat := if 0 < pass then (slice + 1) * part else 0
def oIdx (pass slice lane i part l w : Nat) : Nat := (zcl pass slice part + Z7 (zeq pass slice lane i part l w) (w % 4294967296)) % (4 * part)
theorem zyg (pass slice lane i t l part w : Nat) (m : Int) (fs : List (List Int)) (h1 : pass ≤ 8) (h2 : slice ≤ 4) (h3 : lane ≤ 4) (h4 : i < part) (h5 : t ≤ 8) (h6 : 1 ≤ l ∧ l ≤ 4) (h7 : 2 ≤ part ∧ part ≤ 256)
    (h8 : pass = 0 → slice = 0 → 2 ≤ i) (h9 : lane < l) (hf : fs.length = l) (hfl : ∀ f ∈ fs, f.length = 4 * part * 128) (hw : w < 18446744073709551616) :
    Zs Try.prog 77 [.rop (.agg [.v (.int .i64 t), .v (.int .i64 m), .v (.int .i64 l), zt0 (4 * part) fs, .v (.int .i64 part)]), .agg [.v (.int .i64 pass), .v (.int .i64 slice), .v (.int .i64 lane), .v (.int .i64 i)], .v (.int .u64 w)] [] fun v _ => v = .arr 128 .u64 (Yx (fs.getD (zaf pass slice lane l w) []) (oIdx pass slice lane i part l w)) := by
  have hsh : shr .u64 (w : Int) 32 = ((w / 4294967296 : Nat) : Int) := by
    unfold shr
    rw [show (2 : Int) ^ min (32 : Int).toNat IntKind.u64.bits = ((4294967296 : Nat) : Int) from rfl, Int.fdiv_eq_ediv_of_nonneg _ (by omega)]
    omega
  have w1 : IntKind.u64.wrap (l : Int) = l := zae _ (by omega)
  have hml : (((w / 4294967296 : Nat) : Int)).tmod (l : Int) = ((w / 4294967296 % l : Nat) : Int) := by rw [← Int.ofNat_tmod]
  have hlt : w / 4294967296 % l < l := Nat.mod_lt _ (by omega)
  have w2 : IntKind.i64.wrap ((w / 4294967296 % l : Nat) : Int) = ((w / 4294967296 % l : Nat) : Int) := zj7 _ (by omega)
  have hl0 : ((l : Int) = 0) = False := by simp; omega
  obtain ⟨es, hes⟩ : ∃ es, es = fs.map (zwl (4 * part)) := ⟨_, rfl⟩
  have hesl : es.length = l := by rw [hes, List.length_map, hf]
  have hget : ∀ j, j < l → es.getD j .any = zwl (4 * part) (fs.getD j []) := by
    intro j hj
    rw [hes, List.getD_eq_getElem?_getD, List.getElem?_map, List.getElem?_eq_getElem (by omega), List.getD_eq_getElem?_getD, List.getElem?_eq_getElem (by omega)]; rfl
  obtain ⟨q, hq⟩ : ∃ q, w / 4294967296 % l = q := ⟨_, rfl⟩
  rw [hq] at hlt w2 hml
  unfold zt0
  rw [← hes]
  obtain ⟨ps, hps⟩ : ∃ ps, ps = (List.range (4 * part)).map fun i => AV.arr 128 .u64 (Yx (fs.getD q []) i) := ⟨_, rfl⟩
  have hpl : ps.length = 4 * part := by rw [hps, List.length_map, List.length_range]
  have hpg : ∀ j, j < 4 * part → ps.getD j .any = .arr 128 .u64 (Yx (fs.getD q []) j) := by
    intro j hj
    rw [hps, List.getD_eq_getElem?_getD, List.getElem?_map, List.getElem?_eq_getElem (by rw [List.length_range]; exact hj), List.getElem_range]; rfl
  have hg : es.getD q .any = .roL 128 ps := by rw [hget q hlt, hps]; rfl
  have hw32 : IntKind.u32.wrap (w : Int) = ((w % 4294967296 : Nat) : Int) := by
    unfold IntKind.wrap
    simp only [IntKind.bits, IntKind.signed]
    simp
  have hw33 : w % 4294967296 < 4294967296 := Nat.mod_lt _ (by omega)
  have wb1 : IntKind.i64.wrap (((slice + 1 : Nat) : Int) * (part : Int)) = (((slice + 1) * part : Nat) : Int) := by rw [← Int.natCast_mul]; exact zj7 _ (by have : (slice + 1) * part ≤ 5 * 256 := Nat.mul_le_mul (by omega) (by omega); omega)
  have wsp : IntKind.i64.wrap ((slice : Int) * (part : Int)) = ((slice * part : Nat) : Int) := by rw [← Int.natCast_mul]; exact zj7 _ (by have : slice * part ≤ 4 * 256 := Nat.mul_le_mul (by omega) (by omega); omega)
  have wi : IntKind.i64.wrap ((i : Int) - 1) = (i : Int) - 1 := Zz _ (by omega)
  have hpage : ∀ j, j < 4 * part → (Yx (fs.getD q []) j).length = 128 := by
    intro j hj
    have hm : fs.getD q [] ∈ fs := by rw [List.getD_eq_getElem?_getD, List.getElem?_eq_getElem (by omega)]; exact List.getElem_mem _
    unfold Yx
    rw [List.length_take, List.length_drop, hfl _ hm]
    omega
  by_cases hp : 0 < pass
  · by_cases hql : q = lane
    · have hb : (((q : Nat) : Int) == (lane : Int)) = true := by simp [hql]
      have ho : zaf pass slice lane l w = q := by unfold zaf; rw [if_neg (by omega), hq]
      obtain ⟨D, hD⟩ : ∃ D, D = 3 * part + i - 1 := ⟨_, rfl⟩
      have hDl : D ≤ 2000 := by omega
      have hD0 : 0 < D := by omega
      have wd : IntKind.i64.wrap (((3 * part : Nat) : Int) + ((i : Int) - 1)) = (D : Int) := by rw [Zz _ (by omega)]; omega
      have hDD : zeq pass slice lane i part l w = D := by unfold zeq; rw [ho, if_pos hql, if_pos hp, hD]
      have hWD : Z7 D (w % 4294967296) < D := by unfold Z7; omega
      obtain ⟨Bg, hB⟩ : ∃ Bg, Bg = (slice + 1) * part := ⟨_, rfl⟩
      have hBl : Bg ≤ 5 * 256 := by rw [hB]; exact Nat.mul_le_mul (by omega) (by omega)
      have hBB : zcl pass slice part = Bg := by unfold zcl; rw [if_pos hp, hB]
      have wb2 : IntKind.i64.wrap ((Bg : Int) + (Z7 D (w % 4294967296) : Int)) = ((Bg + Z7 D (w % 4294967296) : Nat) : Int) := by rw [Zz _ (by omega)]; omega
      have wb3 : ((Bg + Z7 D (w % 4294967296) : Nat) : Int).tmod ((4 * part : Nat) : Int) = (((Bg + Z7 D (w % 4294967296)) % (4 * part) : Nat) : Int) := by rw [← Int.ofNat_tmod]
      have hlt4 : (Bg + Z7 D (w % 4294967296)) % (4 * part) < 4 * part := Nat.mod_lt _ (by omega)
      have hpj := hpg _ hlt4
      have hpa := hpage ((Bg + Z7 D (w % 4294967296)) % (4 * part)) hlt4
      have hpt := List.take_of_length_le (Nat.le_of_eq hpa)
      unfold oIdx
      rw [ho, hDD, hBB]
      rw [hB] at wb2 wb3 hlt4 hpj hpa hpt ⊢
      skip
      skip
      refine Zq (zhq 0) Try.func77 rfl ⟨by kernel_rfl, by show 3 ≤ _; decide, by kernel_rfl, by kernel_rfl⟩ rfl ?_; have hr : Try.f77.results.toList = [.cell 6 53] := rfl
      repeat (first | simp only [zqm, zgs, zj5, Nat.reduceBEq, reduceIte, Nat.reduceEqDiff, reduceCtorEq, ne_eq, if_true, if_false, exA, exA, tabs, exB, exD, Zl, Zp, Ze, Zi, Zn, AV.isAggV, AV.parts, AV.one, AV.solid, Zf, Zb, Zj, Zc, Zk, Zh, Zg, bndA, lenA, Zd, rowOf, Za, intsOf, Zo, Nat.reduceAdd, Nat.reduceSub, Nat.reduceMul, Nat.reduceLeDiff, Nat.reduceLT, Nat.reduceGT, Int.reduceToNat, Int.reduceLE, Int.reduceLT, Int.reduceEq, Int.reduceNe, Int.reduceAdd, Int.reduceSub, Int.reduceMul, Int.reduceNeg, ite_true, ite_false, dite_true, xc10, xc11, xc12, xc13, xc14, xc15, xc16, xc17, xc20, xc21, xc22, xc23, xc24, xc25, Zm, hr, hsh, w1, w2, hml, hl0, hesl, hg, hpl, wi, hw32, hb, wb2, wb3, hpj, hpa, hpt, wd, wb1] | simp (maxSteps := 1000000) (disch := omega) only [exE, Int.toNat_natCast, Int.reduceToNat])
      repeat (with_reducible refine And.intro (by first | omega | assumption) ?_)
      exact Int.ofNat_lt.2 hlt4
    · have hb : (((q : Nat) : Int) == (lane : Int)) = false := by simp; omega
      by_cases hi : i = 0
      · have hib : ((i : Int) == 0) = true := by simp [hi]
        have ho : zaf pass slice lane l w = q := by unfold zaf; rw [if_neg (by omega), hq]
        obtain ⟨D, hD⟩ : ∃ D, D = 3 * part - 1 := ⟨_, rfl⟩
        have hDl : D ≤ 2000 := by omega
        have hD0 : 0 < D := by omega
        have hDD : zeq pass slice lane i part l w = D := by unfold zeq; rw [ho, if_neg hql, if_pos hi, if_pos hp, hD]
        have hWD : Z7 D (w % 4294967296) < D := by unfold Z7; omega
        obtain ⟨Bg, hB⟩ : ∃ Bg, Bg = (slice + 1) * part := ⟨_, rfl⟩
        have hBl : Bg ≤ 5 * 256 := by rw [hB]; exact Nat.mul_le_mul (by omega) (by omega)
        have hBB : zcl pass slice part = Bg := by unfold zcl; rw [if_pos hp, hB]
        have wb2 : IntKind.i64.wrap ((Bg : Int) + (Z7 D (w % 4294967296) : Int)) = ((Bg + Z7 D (w % 4294967296) : Nat) : Int) := by rw [Zz _ (by omega)]; omega
        have wb3 : ((Bg + Z7 D (w % 4294967296) : Nat) : Int).tmod ((4 * part : Nat) : Int) = (((Bg + Z7 D (w % 4294967296)) % (4 * part) : Nat) : Int) := by rw [← Int.ofNat_tmod]
        have hlt4 : (Bg + Z7 D (w % 4294967296)) % (4 * part) < 4 * part := Nat.mod_lt _ (by omega)
        have hpj := hpg _ hlt4
        have hpa := hpage ((Bg + Z7 D (w % 4294967296)) % (4 * part)) hlt4
        have hpt := List.take_of_length_le (Nat.le_of_eq hpa)
        unfold oIdx
        rw [ho, hDD, hBB]
        rw [hB, hD] at wb2 wb3 hlt4 hpj hpa hpt ⊢
        rw [hD] at hWD
        skip
        refine Zq (zhq 0) Try.func77 rfl ⟨by kernel_rfl, by show 3 ≤ _; decide, by kernel_rfl, by kernel_rfl⟩ rfl ?_; have hr : Try.f77.results.toList = [.cell 6 53] := rfl
        repeat (first | simp only [zqm, zgs, zj5, Nat.reduceBEq, reduceIte, Nat.reduceEqDiff, reduceCtorEq, ne_eq, if_true, if_false, exA, exA, tabs, exB, exD, Zl, Zp, Ze, Zi, Zn, AV.isAggV, AV.parts, AV.one, AV.solid, Zf, Zb, Zj, Zc, Zk, Zh, Zg, bndA, lenA, Zd, rowOf, Za, intsOf, Zo, Nat.reduceAdd, Nat.reduceSub, Nat.reduceMul, Nat.reduceLeDiff, Nat.reduceLT, Nat.reduceGT, Int.reduceToNat, Int.reduceLE, Int.reduceLT, Int.reduceEq, Int.reduceNe, Int.reduceAdd, Int.reduceSub, Int.reduceMul, Int.reduceNeg, ite_true, ite_false, dite_true, xc10, xc11, xc12, xc13, xc14, xc15, xc16, xc17, xc20, xc21, xc22, xc23, xc24, xc25, Zm, hr, hsh, w1, w2, hml, hl0, hesl, hg, hpl, wi, hw32, hb, wb2, wb3, hpj, hpa, hpt, wb1, hib] | simp (maxSteps := 1000000) (disch := omega) only [exE, Int.toNat_natCast, Int.reduceToNat])
        repeat (with_reducible refine And.intro (by first | omega | assumption) ?_)
        exact Int.ofNat_lt.2 hlt4
      · have hib : ((i : Int) == 0) = false := by simp; omega
        have ho : zaf pass slice lane l w = q := by unfold zaf; rw [if_neg (by omega), hq]
        obtain ⟨D, hD⟩ : ∃ D, D = 3 * part := ⟨_, rfl⟩
        have hDl : D ≤ 2000 := by omega
        have hD0 : 0 < D := by omega
        have hDD : zeq pass slice lane i part l w = D := by unfold zeq; rw [ho, if_neg hql, if_neg hi, if_pos hp, hD]
        have hWD : Z7 D (w % 4294967296) < D := by unfold Z7; omega
        obtain ⟨Bg, hB⟩ : ∃ Bg, Bg = (slice + 1) * part := ⟨_, rfl⟩
        have hBl : Bg ≤ 5 * 256 := by rw [hB]; exact Nat.mul_le_mul (by omega) (by omega)
        have hBB : zcl pass slice part = Bg := by unfold zcl; rw [if_pos hp, hB]
        have wb2 : IntKind.i64.wrap ((Bg : Int) + (Z7 D (w % 4294967296) : Int)) = ((Bg + Z7 D (w % 4294967296) : Nat) : Int) := by rw [Zz _ (by omega)]; omega
        have wb3 : ((Bg + Z7 D (w % 4294967296) : Nat) : Int).tmod ((4 * part : Nat) : Int) = (((Bg + Z7 D (w % 4294967296)) % (4 * part) : Nat) : Int) := by rw [← Int.ofNat_tmod]
        have hlt4 : (Bg + Z7 D (w % 4294967296)) % (4 * part) < 4 * part := Nat.mod_lt _ (by omega)
        have hpj := hpg _ hlt4
        have hpa := hpage ((Bg + Z7 D (w % 4294967296)) % (4 * part)) hlt4
        have hpt := List.take_of_length_le (Nat.le_of_eq hpa)
        unfold oIdx
        rw [ho, hDD, hBB]
        rw [hB, hD] at wb2 wb3 hlt4 hpj hpa hpt ⊢
        rw [hD] at hWD
        skip
        refine Zq (zhq 0) Try.func77 rfl ⟨by kernel_rfl, by show 3 ≤ _; decide, by kernel_rfl, by kernel_rfl⟩ rfl ?_; have hr : Try.f77.results.toList = [.cell 6 53] := rfl
        repeat (first | simp only [zqm, zgs, zj5, Nat.reduceBEq, reduceIte, Nat.reduceEqDiff, reduceCtorEq, ne_eq, if_true, if_false, exA, exA, tabs, exB, exD, Zl, Zp, Ze, Zi, Zn, AV.isAggV, AV.parts, AV.one, AV.solid, Zf, Zb, Zj, Zc, Zk, Zh, Zg, bndA, lenA, Zd, rowOf, Za, intsOf, Zo, Nat.reduceAdd, Nat.reduceSub, Nat.reduceMul, Nat.reduceLeDiff, Nat.reduceLT, Nat.reduceGT, Int.reduceToNat, Int.reduceLE, Int.reduceLT, Int.reduceEq, Int.reduceNe, Int.reduceAdd, Int.reduceSub, Int.reduceMul, Int.reduceNeg, ite_true, ite_false, dite_true, xc10, xc11, xc12, xc13, xc14, xc15, xc16, xc17, xc20, xc21, xc22, xc23, xc24, xc25, Zm, hr, hsh, w1, w2, hml, hl0, hesl, hg, hpl, wi, hw32, hb, wb2, wb3, hpj, hpa, hpt, wb1, hib] | simp (maxSteps := 1000000) (disch := omega) only [exE, Int.toNat_natCast, Int.reduceToNat])
        repeat (with_reducible refine And.intro (by first | omega | assumption) ?_)
        exact Int.ofNat_lt.2 hlt4
  by_cases hs : slice = 0
  · have hp0 : pass = 0 := by omega
    subst hp0; subst hs
    have h2i := h8 rfl rfl
    have hb : ((lane : Int) == (lane : Int)) = true := by simp
    have ho : zaf 0 0 lane l w = lane := by unfold zaf; rw [if_pos ⟨rfl, rfl⟩]
    obtain ⟨pl, hpls⟩ : ∃ pl, pl = (List.range (4 * part)).map fun i => AV.arr 128 .u64 (Yx (fs.getD lane []) i) := ⟨_, rfl⟩
    have hgl : es.getD lane .any = .roL 128 pl := by rw [hget lane h9, hpls]; rfl
    have hpll : pl.length = 4 * part := by rw [hpls, List.length_map, List.length_range]
    have wi2 : IntKind.i64.wrap ((i : Int) - 1) = ((i - 1 : Nat) : Int) := by rw [Zz _ (by omega)]; omega
    have hDD : zeq 0 0 lane i part l w = i - 1 := by unfold zeq; rw [ho, if_pos rfl, if_neg (by omega), Nat.zero_mul, Nat.zero_add]
    have hBB : zcl 0 0 part = 0 := rfl
    have hWD : Z7 (i - 1) (w % 4294967296) < i - 1 := by unfold Z7; omega
    have wb2 : IntKind.i64.wrap (0 + (Z7 (i - 1) (w % 4294967296) : Int)) = ((Z7 (i - 1) (w % 4294967296) : Nat) : Int) := by rw [Zz _ (by omega)]; omega
    have wb3 : ((Z7 (i - 1) (w % 4294967296) : Nat) : Int).tmod ((4 * part : Nat) : Int) = ((Z7 (i - 1) (w % 4294967296) % (4 * part) : Nat) : Int) := by rw [← Int.ofNat_tmod]
    have hlt4 : Z7 (i - 1) (w % 4294967296) % (4 * part) < 4 * part := Nat.mod_lt _ (by omega)
    have hpj : pl.getD (Z7 (i - 1) (w % 4294967296) % (4 * part)) .any = .arr 128 .u64 (Yx (fs.getD lane []) (Z7 (i - 1) (w % 4294967296) % (4 * part))) := by
      rw [hpls, List.getD_eq_getElem?_getD, List.getElem?_map, List.getElem?_eq_getElem (by rw [List.length_range]; exact hlt4), List.getElem_range]; rfl
    have hpa : (Yx (fs.getD lane []) (Z7 (i - 1) (w % 4294967296) % (4 * part))).length = 128 := by
      have hm : fs.getD lane [] ∈ fs := by rw [List.getD_eq_getElem?_getD, List.getElem?_eq_getElem (by omega)]; exact List.getElem_mem _
      unfold Yx
      rw [List.length_take, List.length_drop, hfl _ hm]
      omega
    have hpt := List.take_of_length_le (Nat.le_of_eq hpa)
    unfold oIdx
    rw [ho, hDD, hBB, Nat.zero_add]
    refine Zq (zhq 0) Try.func77 rfl ⟨by kernel_rfl, by show 3 ≤ _; decide, by kernel_rfl, by kernel_rfl⟩ rfl ?_; have hr : Try.f77.results.toList = [.cell 6 53] := rfl
    repeat (first | simp only [zqm, zgs, zj5, Nat.reduceBEq, reduceIte, Nat.reduceEqDiff, reduceCtorEq, ne_eq, if_true, if_false, exA, exA, tabs, exB, exD, Zl, Zp, Ze, Zi, Zn, AV.isAggV, AV.parts, AV.one, AV.solid, Zf, Zb, Zj, Zc, Zk, Zh, Zg, bndA, lenA, Zd, rowOf, Za, intsOf, Zo, Nat.reduceAdd, Nat.reduceSub, Nat.reduceMul, Nat.reduceLeDiff, Nat.reduceLT, Nat.reduceGT, Int.reduceToNat, Int.reduceLE, Int.reduceLT, Int.reduceEq, Int.reduceNe, Int.reduceAdd, Int.reduceSub, Int.reduceMul, Int.reduceNeg, ite_true, ite_false, dite_true, xc10, xc11, xc12, xc13, xc14, xc15, xc16, xc17, xc20, xc21, xc22, xc23, xc24, xc25, Zm, hr, hsh, w1, w2, hml, hl0, hesl, hgl, hpll, wi2, hw32, hb, wb2, wb3, hpj, hpa, hpt] | simp (maxSteps := 1000000) (disch := omega) only [exE, Int.toNat_natCast, Int.reduceToNat])
    repeat (with_reducible refine And.intro (by first | omega | assumption) ?_)
    exact Int.ofNat_lt.2 hlt4
  · by_cases hql : q = lane
    · have hb : (((q : Nat) : Int) == (lane : Int)) = true := by simp [hql]
      have hpz : ((pass : Int) == 0) = true := by simp; omega
      have hsz : ((slice : Int) == 0) = false := by simp; omega
      have ho : zaf pass slice lane l w = q := by unfold zaf; rw [if_neg (by omega), hq]
      obtain ⟨D, hD⟩ : ∃ D, D = slice * part + i - 1 := ⟨_, rfl⟩
      have hsp : slice * part ≤ 4 * 256 := Nat.mul_le_mul (by omega) (by omega)
      have hsp1 : 1 * 2 ≤ slice * part := Nat.mul_le_mul (by omega) (by omega)
      have hDl : D ≤ 2000 := by omega
      have hD0 : 0 < D := by omega
      have wd : IntKind.i64.wrap (((slice * part : Nat) : Int) + ((i : Int) - 1)) = (D : Int) := by rw [Zz _ (by omega)]; omega
      have hDD : zeq pass slice lane i part l w = D := by unfold zeq; rw [ho, if_pos hql, if_neg hp, hD]
      have hWD : Z7 D (w % 4294967296) < D := by unfold Z7; omega
      obtain ⟨Bg, hB⟩ : ∃ Bg, Bg = 0 := ⟨_, rfl⟩
      have hBl : Bg ≤ 5 * 256 := by omega
      have hBB : zcl pass slice part = Bg := by unfold zcl; rw [if_neg hp, hB]
      have wb2 : IntKind.i64.wrap ((Bg : Int) + (Z7 D (w % 4294967296) : Int)) = ((Bg + Z7 D (w % 4294967296) : Nat) : Int) := by rw [Zz _ (by omega)]; omega
      have wb3 : ((Bg + Z7 D (w % 4294967296) : Nat) : Int).tmod ((4 * part : Nat) : Int) = (((Bg + Z7 D (w % 4294967296)) % (4 * part) : Nat) : Int) := by rw [← Int.ofNat_tmod]
      have hlt4 : (Bg + Z7 D (w % 4294967296)) % (4 * part) < 4 * part := Nat.mod_lt _ (by omega)
      have hpj := hpg _ hlt4
      have hpa := hpage ((Bg + Z7 D (w % 4294967296)) % (4 * part)) hlt4
      have hpt := List.take_of_length_le (Nat.le_of_eq hpa)
      unfold oIdx
      rw [ho, hDD, hBB]
      rw [hB] at wb2 wb3 hlt4 hpj hpa hpt ⊢
      skip
      simp only [Nat.zero_add, Int.cast_ofNat_Int, Int.zero_add] at wb2 wb3 hlt4 hpj hpa hpt ⊢
      refine Zq (zhq 0) Try.func77 rfl ⟨by kernel_rfl, by show 3 ≤ _; decide, by kernel_rfl, by kernel_rfl⟩ rfl ?_; have hr : Try.f77.results.toList = [.cell 6 53] := rfl
      repeat (first | simp only [zqm, zgs, zj5, Nat.reduceBEq, reduceIte, Nat.reduceEqDiff, reduceCtorEq, ne_eq, if_true, if_false, exA, exA, tabs, exB, exD, Zl, Zp, Ze, Zi, Zn, AV.isAggV, AV.parts, AV.one, AV.solid, Zf, Zb, Zj, Zc, Zk, Zh, Zg, bndA, lenA, Zd, rowOf, Za, intsOf, Zo, Nat.reduceAdd, Nat.reduceSub, Nat.reduceMul, Nat.reduceLeDiff, Nat.reduceLT, Nat.reduceGT, Int.reduceToNat, Int.reduceLE, Int.reduceLT, Int.reduceEq, Int.reduceNe, Int.reduceAdd, Int.reduceSub, Int.reduceMul, Int.reduceNeg, ite_true, ite_false, dite_true, xc10, xc11, xc12, xc13, xc14, xc15, xc16, xc17, xc20, xc21, xc22, xc23, xc24, xc25, Zm, hr, hsh, w1, w2, hml, hl0, hesl, hg, hpl, wi, hw32, hb, wb2, wb3, hpj, hpa, hpt, wd, wsp, hsz] | simp (maxSteps := 1000000) (disch := omega) only [exE, Int.toNat_natCast, Int.reduceToNat])
      repeat (with_reducible refine And.intro (by first | omega | assumption) ?_)
      exact Int.ofNat_lt.2 hlt4
    · have hb : (((q : Nat) : Int) == (lane : Int)) = false := by simp; omega
      have hsz : ((slice : Int) == 0) = false := by simp; omega
      by_cases hi : i = 0
      · have hib : ((i : Int) == 0) = true := by simp [hi]
        have ho : zaf pass slice lane l w = q := by unfold zaf; rw [if_neg (by omega), hq]
        obtain ⟨D, hD⟩ : ∃ D, D = slice * part - 1 := ⟨_, rfl⟩
        have hsp : slice * part ≤ 4 * 256 := Nat.mul_le_mul (by omega) (by omega)
        have hsp1 : 1 * 2 ≤ slice * part := Nat.mul_le_mul (by omega) (by omega)
        have hDl : D ≤ 2000 := by omega
        have hD0 : 0 < D := by omega
        have hDD : zeq pass slice lane i part l w = D := by unfold zeq; rw [ho, if_neg hql, if_pos hi, if_neg hp, hD]
        have hWD : Z7 D (w % 4294967296) < D := by unfold Z7; omega
        obtain ⟨Bg, hB⟩ : ∃ Bg, Bg = 0 := ⟨_, rfl⟩
        have hBl : Bg ≤ 5 * 256 := by omega
        have hBB : zcl pass slice part = Bg := by unfold zcl; rw [if_neg hp, hB]
        have wb2 : IntKind.i64.wrap ((Bg : Int) + (Z7 D (w % 4294967296) : Int)) = ((Bg + Z7 D (w % 4294967296) : Nat) : Int) := by rw [Zz _ (by omega)]; omega
        have wb3 : ((Bg + Z7 D (w % 4294967296) : Nat) : Int).tmod ((4 * part : Nat) : Int) = (((Bg + Z7 D (w % 4294967296)) % (4 * part) : Nat) : Int) := by rw [← Int.ofNat_tmod]
        have hlt4 : (Bg + Z7 D (w % 4294967296)) % (4 * part) < 4 * part := Nat.mod_lt _ (by omega)
        have hpj := hpg _ hlt4
        have hpa := hpage ((Bg + Z7 D (w % 4294967296)) % (4 * part)) hlt4
        have hpt := List.take_of_length_le (Nat.le_of_eq hpa)
        unfold oIdx
        rw [ho, hDD, hBB]
        rw [hB, hD] at wb2 wb3 hlt4 hpj hpa hpt ⊢
        rw [hD] at hWD
        simp only [Nat.zero_add, Int.cast_ofNat_Int, Int.zero_add] at wb2 wb3 hlt4 hpj hpa hpt ⊢
        refine Zq (zhq 0) Try.func77 rfl ⟨by kernel_rfl, by show 3 ≤ _; decide, by kernel_rfl, by kernel_rfl⟩ rfl ?_; have hr : Try.f77.results.toList = [.cell 6 53] := rfl
        repeat (first | simp only [zqm, zgs, zj5, Nat.reduceBEq, reduceIte, Nat.reduceEqDiff, reduceCtorEq, ne_eq, if_true, if_false, exA, exA, tabs, exB, exD, Zl, Zp, Ze, Zi, Zn, AV.isAggV, AV.parts, AV.one, AV.solid, Zf, Zb, Zj, Zc, Zk, Zh, Zg, bndA, lenA, Zd, rowOf, Za, intsOf, Zo, Nat.reduceAdd, Nat.reduceSub, Nat.reduceMul, Nat.reduceLeDiff, Nat.reduceLT, Nat.reduceGT, Int.reduceToNat, Int.reduceLE, Int.reduceLT, Int.reduceEq, Int.reduceNe, Int.reduceAdd, Int.reduceSub, Int.reduceMul, Int.reduceNeg, ite_true, ite_false, dite_true, xc10, xc11, xc12, xc13, xc14, xc15, xc16, xc17, xc20, xc21, xc22, xc23, xc24, xc25, Zm, hr, hsh, w1, w2, hml, hl0, hesl, hg, hpl, wi, hw32, hb, wb2, wb3, hpj, hpa, hpt, wsp, hsz, hib] | simp (maxSteps := 1000000) (disch := omega) only [exE, Int.toNat_natCast, Int.reduceToNat])
        repeat (with_reducible refine And.intro (by first | omega | assumption) ?_)
        exact Int.ofNat_lt.2 hlt4
      · have hib : ((i : Int) == 0) = false := by simp; omega
        have ho : zaf pass slice lane l w = q := by unfold zaf; rw [if_neg (by omega), hq]
        obtain ⟨D, hD⟩ : ∃ D, D = slice * part := ⟨_, rfl⟩
        have hsp : slice * part ≤ 4 * 256 := Nat.mul_le_mul (by omega) (by omega)
        have hsp1 : 1 * 2 ≤ slice * part := Nat.mul_le_mul (by omega) (by omega)
        have hDl : D ≤ 2000 := by omega
        have hD0 : 0 < D := by omega
        have hDD : zeq pass slice lane i part l w = D := by unfold zeq; rw [ho, if_neg hql, if_neg hi, if_neg hp, hD]
        have hWD : Z7 D (w % 4294967296) < D := by unfold Z7; omega
        obtain ⟨Bg, hB⟩ : ∃ Bg, Bg = 0 := ⟨_, rfl⟩
        have hBl : Bg ≤ 5 * 256 := by omega
        have hBB : zcl pass slice part = Bg := by unfold zcl; rw [if_neg hp, hB]
        have wb2 : IntKind.i64.wrap ((Bg : Int) + (Z7 D (w % 4294967296) : Int)) = ((Bg + Z7 D (w % 4294967296) : Nat) : Int) := by rw [Zz _ (by omega)]; omega
        have wb3 : ((Bg + Z7 D (w % 4294967296) : Nat) : Int).tmod ((4 * part : Nat) : Int) = (((Bg + Z7 D (w % 4294967296)) % (4 * part) : Nat) : Int) := by rw [← Int.ofNat_tmod]
        have hlt4 : (Bg + Z7 D (w % 4294967296)) % (4 * part) < 4 * part := Nat.mod_lt _ (by omega)
        have hpj := hpg _ hlt4
        have hpa := hpage ((Bg + Z7 D (w % 4294967296)) % (4 * part)) hlt4
        have hpt := List.take_of_length_le (Nat.le_of_eq hpa)
        unfold oIdx
        rw [ho, hDD, hBB]
        rw [hB, hD] at wb2 wb3 hlt4 hpj hpa hpt ⊢
        rw [hD] at hWD
        simp only [Nat.zero_add, Int.cast_ofNat_Int, Int.zero_add] at wb2 wb3 hlt4 hpj hpa hpt ⊢
        refine Zq (zhq 0) Try.func77 rfl ⟨by kernel_rfl, by show 3 ≤ _; decide, by kernel_rfl, by kernel_rfl⟩ rfl ?_; have hr : Try.f77.results.toList = [.cell 6 53] := rfl
        repeat (first | simp only [zqm, zgs, zj5, Nat.reduceBEq, reduceIte, Nat.reduceEqDiff, reduceCtorEq, ne_eq, if_true, if_false, exA, exA, tabs, exB, exD, Zl, Zp, Ze, Zi, Zn, AV.isAggV, AV.parts, AV.one, AV.solid, Zf, Zb, Zj, Zc, Zk, Zh, Zg, bndA, lenA, Zd, rowOf, Za, intsOf, Zo, Nat.reduceAdd, Nat.reduceSub, Nat.reduceMul, Nat.reduceLeDiff, Nat.reduceLT, Nat.reduceGT, Int.reduceToNat, Int.reduceLE, Int.reduceLT, Int.reduceEq, Int.reduceNe, Int.reduceAdd, Int.reduceSub, Int.reduceMul, Int.reduceNeg, ite_true, ite_false, dite_true, xc10, xc11, xc12, xc13, xc14, xc15, xc16, xc17, xc20, xc21, xc22, xc23, xc24, xc25, Zm, hr, hsh, w1, w2, hml, hl0, hesl, hg, hpl, wi, hw32, hb, wb2, wb3, hpj, hpa, hpt, wsp, hsz, hib] | simp (maxSteps := 1000000) (disch := omega) only [exE, Int.toNat_natCast, Int.reduceToNat])
        repeat (with_reducible refine And.intro (by first | omega | assumption) ?_)
        exact Int.ofNat_lt.2 hlt4
end Go.Proofs.Ytfnfmbikooeiaaa
namespace Go.Proofs.Ytfnfmbikooeiaaa
open Go.Ax
def Jr (h : List Blk) (n : Nat) : AV → Option (List Int)
  | .sl b 0 128 0 len _ =>
    match row h b with
    | some [.arr N .u64 f] => Zu (len = n ∧ N = n * 128 ∧ f.length = n * 128) (some f)
    | _ => none
  | _ => none
theorem zy2 {h : List Blk} {n : Nat} {x : AV} {f : List Int} (e : Jr h n x = some f) : x.solid = true ∧ Frz h (List.range h.length) x (zwl n f) ∧ f.length = n * 128 := by
  unfold Jr at e
  split at e
  · rename_i b len cap
    split at e
    · rename_i N f' hrow
      obtain ⟨⟨e1, e2, h3⟩, e3⟩ := Zt e
      cases e3
      subst e1 e2
      exact ⟨rfl, Frz.pages (by decide) (List.mem_range.2 (zhh hrow)) hrow, h3⟩
    · cases e
  · cases e
theorem znn {h : List Blk} {n : Nat} : ∀ {xs : List AV} {fs : List (List Int)}, allOf (Jr h n) xs = some fs →
    FrzL h (List.range h.length) xs (fs.map (zwl n)) ∧ (∀ x ∈ xs, x.solid = true) ∧ (∀ f ∈ fs, f.length = n * 128) ∧ xs.length = fs.length
  | [], fs, e => by cases e; exact ⟨trivial, by simp, by simp, rfl⟩
  | x :: xs, fs, e => by
    unfold allOf at e
    obtain ⟨a, ha, e⟩ := Option.bind_eq_some_iff.1 e
    obtain ⟨l, hl, e⟩ := Option.map_eq_some_iff.1 e
    subst e
    obtain ⟨h1, h2, h3, h4⟩ := znn hl
    obtain ⟨g1, g2, g3⟩ := zy2 ha
    refine ⟨⟨g2, h1⟩, ?_, ?_, by simp [h4]⟩
    · intro y hy
      rcases List.mem_cons.1 hy with rfl | hy
      · exact g1
      · exact h2 y hy
    · intro y hy
      rcases List.mem_cons.1 hy with rfl | hy
      · exact g3
      · exact h3 y hy
def othL (pass slice lane i w : Int) (h : List Blk) (t l part : Int) (L : Nat) (xs : List AV) : Option Out :=
  (allOf (Jr h (4 * part.toNat)) xs).bind fun fs =>
    Zu ((0 ≤ pass ∧ pass ≤ 8) ∧ (0 ≤ slice ∧ slice ≤ 4) ∧ (0 ≤ lane ∧ lane ≤ 4) ∧ (0 ≤ i ∧ i < part) ∧ (0 ≤ t ∧ t ≤ 8) ∧ (1 ≤ l ∧ l ≤ 4) ∧ (2 ≤ part ∧ part ≤ 256) ∧ (pass = 0 → slice = 0 → 2 ≤ i) ∧ lane < l ∧ fs.length = l.toNat ∧ L = l.toNat ∧ (0 ≤ w ∧ w < 18446744073709551616))
      (some (.one (.arr 128 .u64 (Yx (fs.getD (zaf pass.toNat slice.toNat lane.toNat l.toNat w.toNat) []) (oIdx pass.toNat slice.toNat lane.toNat i.toNat part.toNat l.toNat w.toNat))) h))
def othK (pass slice lane i w : Int) (h : List Blk) : List AV → Option Out
  | [.v (.int .i64 t), .v (.int .i64 _), .v (.int .i64 l), .sl b1 0 1 0 L _, .v (.int .i64 part)] => (row h b1).bind (othL pass slice lane i w h t l part L)
  | _ => none
theorem ymy (pass slice lane i w t m l part : Int) (b1 L cap : Nat) (h : List Blk) : othK pass slice lane i w h [.v (.int .i64 t), .v (.int .i64 m), .v (.int .i64 l), .sl b1 0 1 0 L cap, .v (.int .i64 part)] = (row h b1).bind (othL pass slice lane i w h t l part L) := rfl
def N77 (h : List Blk) : List AV → Option Out
  | [.ptr b 0 0, .agg [.v (.int .i64 pass), .v (.int .i64 slice), .v (.int .i64 lane), .v (.int .i64 i)], .v (.int .u64 w)] => (row h b).bind (othK pass slice lane i w h)
  | _ => none
theorem ymz (h : List Blk) (b : Nat) (pass slice lane i w : Int) : N77 h [.ptr b 0 0, .agg [.v (.int .i64 pass), .v (.int .i64 slice), .v (.int .i64 lane), .v (.int .i64 i)], .v (.int .u64 w)] = (row h b).bind (othK pass slice lane i w h) := rfl
theorem z95 (h : List Blk) (args : List AV) (out : Out) (hN : N77 h args = some out) : (out.all fun _ h' => ∃ ext, h' = h ++ ext) ∧ ∀ κ, out.all κ → Zs Try.prog 77 args h κ := by
  unfold N77 at hN
  split at hN
  · rename_i b pass slice lane i w
    obtain ⟨ps, hrow, hN⟩ := Option.bind_eq_some_iff.1 hN
    unfold othK at hN
    split at hN
    · rename_i t m l b1 L cap part
      obtain ⟨xs, hrow1, hN⟩ := Option.bind_eq_some_iff.1 hN
      unfold othL at hN
      obtain ⟨fs, hfs, hN⟩ := Option.bind_eq_some_iff.1 hN
      obtain ⟨⟨h1, h2, h3, h4, h5, h6, h7, h8, h9, h10, h11, h12⟩, hN⟩ := Zt hN
      cases hN
      obtain ⟨pass, rfl⟩ := Int.eq_ofNat_of_zero_le h1.1
      obtain ⟨slice, rfl⟩ := Int.eq_ofNat_of_zero_le h2.1
      obtain ⟨lane, rfl⟩ := Int.eq_ofNat_of_zero_le h3.1
      obtain ⟨i, rfl⟩ := Int.eq_ofNat_of_zero_le h4.1
      obtain ⟨t, rfl⟩ := Int.eq_ofNat_of_zero_le h5.1
      obtain ⟨l, rfl⟩ := Int.eq_ofNat_of_zero_le (show 0 ≤ l by omega)
      obtain ⟨part, rfl⟩ := Int.eq_ofNat_of_zero_le (show 0 ≤ part by omega)
      obtain ⟨w, rfl⟩ := Int.eq_ofNat_of_zero_le h12.1
      simp only [Int.toNat_natCast] at hfs h10 h11
      obtain ⟨g1, g2, g3, g4⟩ := znn hfs
      have hs : Zs Try.prog 77 [.rop (.agg [.v (.int .i64 (t : Nat)), .v (.int .i64 m), .v (.int .i64 (l : Nat)), zt0 (4 * part) fs, .v (.int .i64 (part : Nat))]), .agg [.v (.int .i64 (pass : Nat)), .v (.int .i64 (slice : Nat)), .v (.int .i64 (lane : Nat)), .v (.int .i64 (i : Nat))], .v (.int .u64 (w : Nat))] [] fun v h' => v = .arr 128 .u64 (Yx (fs.getD (zaf pass slice lane l w) []) (oIdx pass slice lane i part l w)) ∧ h' = [] := by
        refine Zs.weak (C := c25 0) rfl (zyg pass slice lane i t l part w m fs (by omega) (by omega) (by omega) (by omega) (by omega) (by omega) (by omega) (fun e1 e2 => by have := h8 (by omega) (by omega); omega) (by omega) h10 g3 (by omega)) ?_
        rintro v h' rfl
        exact ⟨_, [], zh6 rfl rfl, rfl, rfl⟩
      have hlanes : Frz h (List.range h.length) (.sl b1 0 1 0 L cap) (zt0 (4 * part) fs) := by
        refine Frz.list2 (es := xs) (List.mem_range.2 (zhh hrow1)) hrow1 g2 (by omega) ?_ g1 ?_
        · rw [List.drop_zero]; exact List.take_of_length_le (by omega)
        · intro y hy
          obtain ⟨f, _, rfl⟩ := List.mem_map.1 hy
          rfl
      refine ⟨⟨[], by simp⟩, fun κ hκ => Ql (args := [.ptr b 0 0, .agg [.v (.int .i64 (pass : Nat)), .v (.int .i64 (slice : Nat)), .v (.int .i64 (lane : Nat)), .v (.int .i64 (i : Nat))], .v (.int .u64 (w : Nat))]) hs (by rintro _ _ ⟨rfl, rfl⟩; exact ⟨rfl, rfl⟩) ?_
        ⟨Frz.struct2 (List.mem_range.2 (zhh hrow)) hrow ?_ ?_ ⟨Frz.same _, Frz.same _, Frz.same _, hlanes, Frz.same _, trivial⟩, Frz.same _, Frz.same _, trivial⟩ ?_ hκ⟩
      · intro g
        rfl
      · intro x hx
        simp only [List.mem_cons, List.not_mem_nil, or_false] at hx
        rcases hx with rfl | rfl | rfl | rfl | rfl <;> rfl
      · intro x hx
        simp only [List.mem_cons, List.not_mem_nil, or_false] at hx
        rcases hx with rfl | rfl | rfl | rfl | rfl <;> rfl
      · rintro _ _ ⟨rfl, rfl⟩
        exact ⟨rfl, by simp⟩
    · cases hN
  · cases hN
end Go.Proofs.Ytfnfmbikooeiaaa
namespace Go.Proofs.Ytfnfmbikooeiaaa
open Go.Ax
noncomputable def n26 : FuncId → Option (List Blk → List AV → Option Out) := Qz n25 77 N77
noncomputable def c26 (k : Nat) : Cfg := ⟨Try.prog, k, p23, [], n26, none, []⟩
theorem Yo (k : Nat) : (c26 k).odd = [] := rfl
theorem Y0 (k : Nat) : (c26 k).ro = [] := rfl
theorem Qt (k : Nat) : (c26 k).P = Try.prog := rfl
theorem yl0 (k : Nat) : (c26 k).pure = p23 := rfl
theorem yl1 (k : Nat) : (c26 k).news = n26 := rfl
theorem xc26 :
  (type_of% @Go.Proofs.Ytfnfmbikooeiaaa.yl0) ∧
  (type_of% @Go.Proofs.Ytfnfmbikooeiaaa.yl1) ∧
  (type_of% @Go.Proofs.Ytfnfmbikooeiaaa.n26.eq_1) ∧
  (type_of% @Go.Proofs.Ytfnfmbikooeiaaa.ym0) ∧
  (type_of% @Go.Proofs.Ytfnfmbikooeiaaa.ymz) ∧
  (type_of% @Go.Proofs.Ytfnfmbikooeiaaa.z1r) ∧
  (type_of% @Go.Proofs.Ytfnfmbikooeiaaa.ymy) :=
  ⟨@Go.Proofs.Ytfnfmbikooeiaaa.yl0, @Go.Proofs.Ytfnfmbikooeiaaa.yl1, @Go.Proofs.Ytfnfmbikooeiaaa.n26.eq_1, @Go.Proofs.Ytfnfmbikooeiaaa.ym0, @Go.Proofs.Ytfnfmbikooeiaaa.ymz, @Go.Proofs.Ytfnfmbikooeiaaa.z1r, @Go.Proofs.Ytfnfmbikooeiaaa.ymy⟩
theorem zax (k : Nat) : (c26 k).Good := Cfg.Good.addN (zhq k) z95 k
noncomputable def c26o (k : Nat) : Cfg := ⟨Try.prog, k, p23, [17], n26, none, []⟩
theorem Qk (k : Nat) : (c26o k).odd = [17] := rfl
theorem Q5 (k : Nat) : (c26o k).ro = [] := rfl
theorem Jt (k : Nat) : (c26o k).P = Try.prog := rfl
theorem ydj (k : Nat) : (c26o k).pure = p23 := rfl
theorem ydk (k : Nat) : (c26o k).news = n26 := rfl
theorem zbo :
  (type_of% @Go.Proofs.Ytfnfmbikooeiaaa.ydj) ∧
  (type_of% @Go.Proofs.Ytfnfmbikooeiaaa.ydk) :=
  ⟨@Go.Proofs.Ytfnfmbikooeiaaa.ydj, @Go.Proofs.Ytfnfmbikooeiaaa.ydk⟩
theorem zbl (k : Nat) : (c26o k).Good := zax k
end Go.Proofs.Ytfnfmbikooeiaaa
namespace Go.Proofs.Ytfnfmbikooeiaaa
open Go.Ax
def putAt (f : List Int) (k : Nat) (p : List Int) : List Int := f.take (k * 128) ++ p ++ f.drop (k * 128 + 128)
def zcs (slice i part : Nat) (f : List Int) : List Int := Yx f ((slice * part + i + 4 * part - 1) % (4 * part))
def stepW (pass slice lane i t L part : Nat) (f : List Int) : Int := if pass = 0 ∧ slice < 2 then (adrL pass slice lane 0 t L part).getD i 0 else (zcs slice i part f).getD 0 0
def zkm (pass slice lane i L part : Nat) (fs : List (List Int)) (w : Nat) : List Int := Yx (fs.getD (zaf pass slice lane L w) []) (oIdx pass slice lane i part L w)
def zdf (pass slice lane i t L part : Nat) (fs : List (List Int)) (f : List Int) : List Int :=
  Ys (zcs slice i part f) (zkm pass slice lane i L part (fs.set lane f) (stepW pass slice lane i t L part f).toNat)
def za3 (pass slice lane i t L part : Nat) (fs : List (List Int)) (f : List Int) : List Int :=
  putAt f (slice * part + i) (if 0 < pass then xorK (zdf pass slice lane i t L part fs f) (Yx f (slice * part + i)) 128 else zdf pass slice lane i t L part fs f)
def Yr (pass slice lane t L part lo : Nat) (fs : List (List Int)) (f : List Int) : Nat → List Int
  | 0 => f
  | k + 1 => za3 pass slice lane (lo + k) t L part fs (Yr pass slice lane t L part lo fs f k)
theorem zap {f : List Int} {n k : Nat} (hf : f.length = n * 128) (hk : k < n) : (Yx f k).length = 128 := by
  unfold Yx; rw [List.length_take, List.length_drop, hf]; omega
theorem zl4 (pass slice lane i t L part : Nat) (fs : List (List Int)) {f : List Int} (hf : f.length = 4 * part * 128) (hp : 0 < part) : (zdf pass slice lane i t L part fs f).length = 128 := by
  unfold zdf zcs; rw [zao]; exact zap hf (Nat.mod_lt _ (by omega))
theorem zr4 {f p : List Int} {n k : Nat} (hf : f.length = n * 128) (hk : k < n) (hp : p.length = 128) : (putAt f k p).length = n * 128 := by
  unfold putAt; rw [List.length_append, List.length_append, List.length_take, List.length_drop, hf, hp]; omega
theorem z2b (pass slice lane i t L part : Nat) (fs : List (List Int)) {f : List Int} (hf : f.length = 4 * part * 128) (hs : slice < 4) (hi : i < part) : (za3 pass slice lane i t L part fs f).length = 4 * part * 128 := by
  have h1 : slice * part ≤ 3 * part := Nat.mul_le_mul_right _ (by omega)
  unfold za3
  refine zr4 hf (by omega) ?_
  split
  · rw [Qu]; exact zl4 _ _ _ _ _ _ _ _ hf (by omega)
  · exact zl4 _ _ _ _ _ _ _ _ hf (by omega)
theorem zb3 (pass slice lane t L part lo : Nat) (fs : List (List Int)) {f : List Int} (hf : f.length = 4 * part * 128) (hs : slice < 4) : ∀ k, lo + k ≤ part → (Yr pass slice lane t L part lo fs f k).length = 4 * part * 128
  | 0, _ => hf
  | k + 1, h => z2b _ _ _ _ _ _ _ _ (zb3 pass slice lane t L part lo fs hf hs k (by omega)) hs (by omega)
theorem Wds.put {f p : List Int} (hf : Wds f) (hp : Wds p) (k : Nat) : Wds (putAt f k p) := by
  have app : ∀ {a b : List Int}, Wds a → Wds b → Wds (a ++ b) := by
    intro a b ha hb i
    rw [List.getD_eq_getElem?_getD, List.getElem?_append]
    split
    · rw [← List.getD_eq_getElem?_getD]; exact ha i
    · rw [← List.getD_eq_getElem?_getD]; exact hb _
  unfold putAt
  refine app (app ?_ hp) ?_
  · intro i
    rw [List.getD_eq_getElem?_getD, List.getElem?_take]
    split
    · rw [← List.getD_eq_getElem?_getD]; exact hf i
    · simp
  · intro i
    rw [List.getD_eq_getElem?_getD, List.getElem?_drop, ← List.getD_eq_getElem?_getD]; exact hf _
theorem Wds.page {f : List Int} (hf : Wds f) (k : Nat) : Wds (Yx f k) := by
  intro i
  unfold Yx
  rw [List.getD_eq_getElem?_getD, List.getElem?_take]
  split
  · rw [List.getElem?_drop, ← List.getD_eq_getElem?_getD]; exact hf _
  · simp
theorem ych (x y : Int) : 0 ≤ xorU x y ∧ xorU x y < 18446744073709551616 := by
  unfold xorU; rw [zas]; omega
theorem z3x {x y : List Int} (hx : x.length ≤ 128) : Wds (xorK x y 128) := by
  have key : ∀ n i, i < n → 0 ≤ (xorK x y n).getD i 0 ∧ (xorK x y n).getD i 0 < 18446744073709551616 := by
    intro n
    induction n with
    | zero => intro i hi; omega
    | succ n ih =>
      intro i hi
      simp only [xorK]
      rw [List.getD_eq_getElem?_getD, List.getElem?_set]
      split
      · split
        · exact ych _ _
        · simp
      · rw [← List.getD_eq_getElem?_getD]; exact ih i (by omega)
  intro i
  rcases Nat.lt_or_ge i 128 with h | h
  · exact key 128 i h
  · rw [List.getD_eq_getElem?_getD, List.getElem?_eq_none (by rw [Qu]; omega)]; simp
theorem zpl {x y : List Int} (hx : x.length ≤ 128) : Wds (Ys x y) := by
  unfold Ys zpk
  exact z3x (by rw [zat, zat, Qu]; exact hx)
theorem z8m (pass slice lane i t L part : Nat) (fs : List (List Int)) {f : List Int} (hf : f.length = 4 * part * 128) (hw : Wds f) (hp : 0 < part) : Wds (za3 pass slice lane i t L part fs f) := by
  unfold za3
  refine hw.put ?_ _
  split
  · exact z3x (by rw [zl4 _ _ _ _ _ _ _ _ hf hp]; omega)
  · exact zpl (by unfold zcs; rw [zap hf (Nat.mod_lt _ (by omega))]; omega)
theorem zfs (pass slice lane t L part lo : Nat) (fs : List (List Int)) {f : List Int} (hf : f.length = 4 * part * 128) (hw : Wds f) (hs : slice < 4) (hp : 0 < part) : ∀ k, lo + k ≤ part → Wds (Yr pass slice lane t L part lo fs f k)
  | 0, _ => hw
  | k + 1, h => z8m _ _ _ _ _ _ _ _ (zb3 pass slice lane t L part lo fs hf hs k (by omega)) (zfs pass slice lane t L part lo fs hf hw hs hp k (by omega)) hp
end Go.Proofs.Ytfnfmbikooeiaaa
namespace Go.Proofs.Ytfnfmbikooeiaaa
open Go.Ax
theorem zn0 {pass slice lane i t L part w : Nat} {h : List Blk} {es : List AV} {fs : List (List Int)} (hall : allOf (Jr h (4 * part)) es = some fs) (h1 : pass ≤ 8) (h2 : slice ≤ 4) (h3 : lane < L) (h4 : i < part) (h5 : t ≤ 8) (hL : 1 ≤ L ∧ L ≤ 4) (h7 : 2 ≤ part ∧ part ≤ 64) (h8 : pass = 0 → slice = 0 → 2 ≤ i)
    (hf : fs.length = L) (hw : w < 18446744073709551616) : othL (pass : Int) (slice : Int) (lane : Int) (i : Int) (w : Int) h (t : Int) (L : Int) (part : Int) L es = some (.one (.arr 128 .u64 (zkm pass slice lane i L part fs w)) h) := by
  unfold othL
  simp only [Int.toNat_natCast]
  rw [hall, Option.bind_some]
  unfold Zu
  rw [if_pos]
  · rfl
  · refine ⟨⟨by omega, by omega⟩, ⟨by omega, by omega⟩, ⟨by omega, by omega⟩, ⟨by omega, by omega⟩, ⟨by omega, by omega⟩, ⟨by omega, by omega⟩, ⟨by omega, by omega⟩, fun e1 e2 => ?_, by omega, hf, trivial, by omega, by omega⟩
    have := h8 (by omega) (by omega)
    omega
theorem zid {pass slice lane i L part w n : Nat} {fs : List (List Int)} (hn : n = 4 * part) (hp : 0 < part) (hf : fs.length = L) (hl : lane < L) (hfl : ∀ g ∈ fs, g.length = n * 128) : (zkm pass slice lane i L part fs w).length = 128 := by
  unfold zkm
  have hq : zaf pass slice lane L w < L := by
    unfold zaf
    split
    · exact hl
    · exact Nat.mod_lt _ (by omega)
  refine zap (n := n) (hfl _ ?_) ?_
  · rw [List.getD_eq_getElem?_getD, List.getElem?_eq_getElem (by omega)]; exact List.getElem_mem _
  · unfold oIdx; rw [hn]; exact Nat.mod_lt _ (by omega)
theorem zag {fs : List (List Int)} {lane N : Nat} {f : List Int} (hfl : ∀ g ∈ fs, g.length = N) (hf : f.length = N) : ∀ g ∈ fs.set lane f, g.length = N := by
  intro g hg
  rcases List.mem_or_eq_of_mem_set hg with h | rfl
  · exact hfl g h
  · exact hf
theorem z40 (pass slice lane t L part m c n N N1 N2 N3 : Nat) (hn : n = 4 * part) (hN : N = n * 128) (es : List AV) (fs : List (List Int)) (f0 g1 g2 g3 zp : List Int) (hzp : zp = List.replicate 128 0) (h1 : pass ≤ 7) (h2 : slice < 4) (h3 : lane < L) (hL : 1 ≤ L ∧ L ≤ 4) (h5 : t ≤ 8) (h7 : 2 ≤ part ∧ part ≤ 64)
    (hf0 : f0.length = N) (hw0 : Wds f0) (hfl : fs.length = L) (hfn : ∀ g ∈ fs, g.length = N) (hp0 : 0 < pass)
    (hcell : Y2 es lane = some (.sl 2 0 128 0 n n))
    (hren : ∀ l len, renL (Z4 (0 :: 1 :: 2 :: 3 :: 4 :: 5 :: l) len) es = es)
    (hall : ∀ M f rest, f.length = N → allOf (Jr (M :: some es :: some [.arr N .u64 f] :: some [.arr N1 .u64 g1] :: some [.arr N2 .u64 g2] :: some [.arr N3 .u64 g3] :: rest) (4 * part)) es = some (fs.set lane f)) :
    Zs Try.prog 63 [.ptr 0 0 0, .agg [.v (.int .i64 pass), .v (.int .i64 slice), .v (.int .i64 lane), .v (.int .i64 0)]]
      [some [.v (.int .i64 t), .v (.int .i64 m), .v (.int .i64 L), .sl 1 0 1 0 L c, .v (.int .i64 part)], some es, some [.arr N .u64 f0], some [.arr N1 .u64 g1], some [.arr N2 .u64 g2], some [.arr N3 .u64 g3]]
      fun v h' => v = .tup [] ∧ ∃ x y, h' = [some [.v (.int .i64 t), .v (.int .i64 m), .v (.int .i64 L), .sl 1 0 1 0 L c, .v (.int .i64 part)], some es, some [.arr N .u64 (Yr pass slice lane t L part 0 fs f0 part)], some [.arr N1 .u64 g1], some [.arr N2 .u64 g2], some [.arr N3 .u64 g3], x, y] := by
  have hpz : ((pass : Int) == 0) = false := by simp; omega
  have hpg : ((0 : Int) < (pass : Int)) = True := by simp; omega
  obtain ⟨sp, hsp⟩ : ∃ sp, sp = slice * part := ⟨_, rfl⟩
  have hsp1 : sp + part ≤ n := by rw [hsp, hn]; have := Nat.mul_le_mul_right part (show slice ≤ 3 by omega); omega
  have wsp : IntKind.i64.wrap ((slice : Int) * (part : Int)) = (sp : Int) := by rw [← Int.natCast_mul, ← hsp]; exact Zz _ (by omega)
  refine Zq (zbl 6) Try.func63 rfl ⟨by kernel_rfl, by show 2 ≤ _; decide, by kernel_rfl, by kernel_rfl⟩ rfl ?_; have hr : Try.f63.results.toList = [] := rfl
  repeat (first | simp only [Jt, Qk, Q5, Nat.reduceBEq, reduceIte, Nat.reduceEqDiff, reduceCtorEq, ne_eq, if_true, if_false, exA, exA, tabs, exB, exD, Zl, Zp, Ze, Zi, Zn, AV.isAggV, AV.parts, AV.one, AV.solid, Zf, Zb, Zj, Zc, Zk, Zh, Zg, bndA, lenA, Zd, rowOf, Za, intsOf, Zo, Nat.reduceAdd, Nat.reduceSub, Nat.reduceMul, Nat.reduceLeDiff, Nat.reduceLT, Nat.reduceGT, Int.reduceToNat, Int.reduceLE, Int.reduceLT, Int.reduceEq, Int.reduceNe, Int.reduceAdd, Int.reduceSub, Int.reduceMul, Int.reduceNeg, ite_true, ite_false, dite_true, xc10, xc11, xc12, xc13, xc14, xc15, xc16, xc17, xc20, xc21, xc22, xc23, xc24, xc25, xc26, zbo, Zm, hr, hpz, hcell] | simp (maxSteps := 1000000) (disch := omega) only [exE, Int.toNat_natCast, Int.reduceToNat])
  rw [← hzp]
  repeat (with_reducible refine And.intro (by first | omega | assumption) ?_)
  refine Z3 (zbl 6) (fun k => ⟨envL [(0, .ptr 0 0 0), (3, .ptr 6 0 0), (4, .sl 2 0 128 0 n n), (5, .v (.bool false)), (6, .ptr 7 0 0)],
    [some [.v (.int .i64 t), .v (.int .i64 m), .v (.int .i64 L), .sl 1 0 1 0 L c, .v (.int .i64 part)], some es, some [.arr N .u64 (Yr pass slice lane t L part 0 fs f0 k)], some [.arr N1 .u64 g1], some [.arr N2 .u64 g2], some [.arr N3 .u64 g3],
     some [.v (.int .i64 pass), .v (.int .i64 slice), .v (.int .i64 lane), .v (.int .i64 k)], some [.arr 128 .u64 zp]]⟩) part (by kernel_rfl) ?_ ?_ ?_
  · (refine Z1 ?_ ?_; (focus (first | with_reducible rfl | (simp only [Yr, Int.natCast_zero] <;> with_reducible rfl))); simp only [exF, Nat.reduceEqDiff, if_true, if_false, reduceIte, Option.some.injEq, reduceCtorEq, Int.cast_ofNat_Int, Yr, Int.natCast_zero])
  · intro i hi
    have hfk := zb3 pass slice lane t L part 0 fs (by rw [hf0, hN, hn]) h2 i (by omega)
    have hwk := zfs pass slice lane t L part 0 fs (by rw [hf0, hN, hn]) hw0 h2 (by omega) i (by omega)
    rw [← hn, ← hN] at hfk
    have hS : Yr pass slice lane t L part 0 fs f0 (i + 1) = za3 pass slice lane (0 + i) t L part fs (Yr pass slice lane t L part 0 fs f0 i) := rfl
    rw [Nat.zero_add] at hS
    rw [hS]
    obtain ⟨f, hff⟩ : ∃ f, Yr pass slice lane t L part 0 fs f0 i = f := ⟨_, rfl⟩
    rw [hff] at hfk hwk ⊢
    clear hff hS
    have hall2 := fun M rest => hall M f rest hfk
    obtain ⟨j, hj⟩ : ∃ j, j = (sp + i + n - 1) % n := ⟨_, rfl⟩
    have hjl : j < n := by rw [hj]; exact Nat.mod_lt _ (by omega)
    have hlt : ((i : Int) < (part : Int)) = True := by simp; omega
    have wh : IntKind.i64.wrap ((sp : Int) + (i : Int)) = ((sp + i : Nat) : Int) := by rw [Zz _ (by omega)]; omega
    have wl : IntKind.i64.wrap (((sp + i : Nat) : Int) + ((n : Nat) : Int)) = ((sp + i + n : Nat) : Int) := by rw [Zz _ (by omega)]; omega
    have wl1 : IntKind.i64.wrap (((sp + i + n : Nat) : Int) - 1) = ((sp + i + n - 1 : Nat) : Int) := by rw [Zz _ (by omega)]; omega
    have wm : ((sp + i + n - 1 : Nat) : Int).tmod ((n : Nat) : Int) = (j : Int) := by rw [← Int.ofNat_tmod, hj]
    have wj : ((j : Int)).toNat = j := Int.toNat_natCast j
    have hn0 : (((n : Nat) : Int) = 0) = False := by simp; omega
    simp only [Jt, Qk, Q5, Nat.reduceBEq, reduceIte, Nat.reduceEqDiff, reduceCtorEq, ne_eq, if_true, if_false, exA, exA, tabs, exB, exD, Zl, Zp, Ze, Zi, Zn, AV.isAggV, AV.parts, AV.one, AV.solid, Zf, Zb, Zj, Zc, Zk, Zh, Zg, bndA, lenA, Zd, rowOf, Za, intsOf, Zo, Nat.reduceAdd, Nat.reduceSub, Nat.reduceMul, Nat.reduceLeDiff, Nat.reduceLT, Nat.reduceGT, Int.reduceToNat, Int.reduceLE, Int.reduceLT, Int.reduceEq, Int.reduceNe, Int.reduceAdd, Int.reduceSub, Int.reduceMul, Int.reduceNeg, ite_true, ite_false, dite_true, xc10, xc11, xc12, xc13, xc14, xc15, xc16, xc17, xc20, xc21, xc22, xc23, xc24, xc25, xc26, zbo, Zm, hr, hpg, hpz, wsp, hall2, hlt, wh, wl, wl1, wm, wj, hn0]
    repeat (with_reducible refine And.intro (by first | omega | assumption) ?_)
    have hsl : (fs.set lane f).length = L := by rw [List.length_set]; exact hfl
    rw [show List.take 128 (List.drop (j * 128) f) = Yx f j from rfl]
    have hahl : (Yx f j).length = 128 := zap (n := n) (by rw [hfk, hN]) hjl
    obtain ⟨ah, hah⟩ : ∃ ah, Yx f j = ah := ⟨_, rfl⟩
    have hW := hwk.page j 0
    rw [hah] at hW hahl ⊢
    obtain ⟨w, hw⟩ := Int.eq_ofNat_of_zero_le hW.1
    have hw2 : w < 18446744073709551616 := by have := hW.2; omega
    rw [hw]
    have hah2 : zcs slice i part f = ah := by unfold zcs; rw [← hn, ← hsp, ← hj, hah]
    obtain ⟨o, ho⟩ : ∃ o, o = zkm pass slice lane i L part (fs.set lane f) w := ⟨_, rfl⟩
    have hol : o.length = 128 := by rw [ho]; exact zid hn (by omega) hsl h3 (by rw [← hN]; exact zag hfn hfk)
    have hoth : ∀ M rest, othL pass slice lane i w (M :: some es :: some [.arr N .u64 f] :: some [.arr N1 .u64 g1] :: some [.arr N2 .u64 g2] :: some [.arr N3 .u64 g3] :: rest) t L part L es = some (.one (.arr 128 .u64 o) (M :: some es :: some [.arr N .u64 f] :: some [.arr N1 .u64 g1] :: some [.arr N2 .u64 g2] :: some [.arr N3 .u64 g3] :: rest)) := by
      intro M rest
      rw [ho]
      exact zn0 (hall2 M rest) (by omega) (by omega) h3 hi h5 hL h7 (by omega) hsl hw2
    have hpl : (Ys ah o).length = 128 := by rw [zao, hahl]
    have hpt : List.take 128 (Ys ah o) = Ys ah o := List.take_of_length_le (by omega)
    have hat : List.take 128 ah = ah := List.take_of_length_le (by omega)
    have hN1 : (N = 128) = False := by simp; omega
    have hp : zdf pass slice lane i t L part fs f = Ys ah o := by
      unfold zdf stepW
      rw [if_neg (by omega), hah2, hw, Int.toNat_natCast, ho]
    refine zir (zbl 6) (.first 0 (.first 1 (.first 2 (.first 3 (.fork 4 (.fork 5 (.fork 6 (.fork 7 .done .stop) .stop) (.fork 6 (.fork 5 (.fork 7 .done .stop) .stop) .stop)) (.fork 6 (.fork 4 (.fork 5 (.fork 7 .done .stop) .stop) .stop) .stop))))))
      ⟨envL [(0, .ptr 0 0 0), (3, .ptr 6 0 0), (4, .sl 2 0 128 0 n n), (5, .v (.bool false)), (6, .ptr 7 0 0), (7, .v (.int .i64 ((sp + i : Nat)))), (10, .ptr 9 0 0)],
      [some [.v (.int .i64 t), .v (.int .i64 m), .v (.int .i64 L), .sl 1 0 1 0 L c, .v (.int .i64 part)], some es, some [.arr N .u64 f], some [.arr N1 .u64 g1], some [.arr N2 .u64 g2], some [.arr N3 .u64 g3],
       some [.v (.int .i64 pass), .v (.int .i64 slice), .v (.int .i64 lane), .v (.int .i64 i)], some [.arr 128 .u64 zp], some [.arr 128 .u64 ah], some [.arr 128 .u64 (Ys ah o)]]⟩ (by kernel_rfl) ?_ ?_
    · repeat (first | simp only [Jt, Qk, Q5, Nat.reduceBEq, reduceIte, Nat.reduceEqDiff, reduceCtorEq, ne_eq, if_true, if_false, exA, exA, tabs, exB, exD, Zl, Zp, Ze, Zi, Zn, AV.isAggV, AV.parts, AV.one, AV.solid, Zf, Zb, Zj, Zc, Zk, Zh, Zg, bndA, lenA, Zd, rowOf, Za, intsOf, Zo, Nat.reduceAdd, Nat.reduceSub, Nat.reduceMul, Nat.reduceLeDiff, Nat.reduceLT, Nat.reduceGT, Int.reduceToNat, Int.reduceLE, Int.reduceLT, Int.reduceEq, Int.reduceNe, Int.reduceAdd, Int.reduceSub, Int.reduceMul, Int.reduceNeg, ite_true, ite_false, dite_true, xc10, xc11, xc12, xc13, xc14, xc15, xc16, xc17, xc20, xc21, xc22, xc23, xc24, xc25, xc26, zbo, Zm, hr, hoth, hat, hahl, hol, hpl, hpt] | simp (maxSteps := 1000000) (disch := omega) only [exE, Int.toNat_natCast, Int.reduceToNat])
      repeat' (first | exact trivial | rfl | refine And.intro ?_ ?_)
      all_goals (refine Z1 ?_ ?_; (focus (first | with_reducible rfl | (simp only [] <;> with_reducible rfl))); simp only [exF, Nat.reduceEqDiff, if_true, if_false, reduceIte, Option.some.injEq, reduceCtorEq, Int.cast_ofNat_Int])
    · repeat (first | simp only [Jt, Qk, Q5, Nat.reduceBEq, reduceIte, Nat.reduceEqDiff, reduceCtorEq, ne_eq, if_true, if_false, exA, exA, tabs, exB, exD, Zl, Zp, Ze, Zi, Zn, AV.isAggV, AV.parts, AV.one, AV.solid, Zf, Zb, Zj, Zc, Zk, Zh, Zg, bndA, lenA, Zd, rowOf, Za, intsOf, Zo, Nat.reduceAdd, Nat.reduceSub, Nat.reduceMul, Nat.reduceLeDiff, Nat.reduceLT, Nat.reduceGT, Int.reduceToNat, Int.reduceLE, Int.reduceLT, Int.reduceEq, Int.reduceNe, Int.reduceAdd, Int.reduceSub, Int.reduceMul, Int.reduceNeg, ite_true, ite_false, dite_true, xc10, xc11, xc12, xc13, xc14, xc15, xc16, xc17, xc20, xc21, xc22, xc23, xc24, xc25, xc26, zbo, Zm, hr, hpg] | simp (maxSteps := 1000000) (disch := omega) only [exE, Int.toNat_natCast, Int.reduceToNat])
      repeat (with_reducible refine And.intro (by first | omega | assumption) ?_)
      rw [show List.take 128 (List.drop ((sp + i) * 128) f) = Yx f (sp + i) from rfl]
      have hoo : (Yx f (sp + i)).length = 128 := zap (n := n) (by rw [hfk, hN]) (by omega)
      obtain ⟨od, hod⟩ : ∃ od, Yx f (sp + i) = od := ⟨_, rfl⟩
      rw [hod] at hoo ⊢
      refine Z3 (zbl 6) (fun k => ⟨envL [(0, .ptr 0 0 0), (3, .ptr 6 0 0), (4, .sl 2 0 128 0 n n), (5, .v (.bool false)), (6, .ptr 7 0 0), (7, .v (.int .i64 ((sp + i : Nat)))), (10, .ptr 8 0 0), (101, .arr 128 .u64 od), (102, .v (.int .i64 k))],
        [some [.v (.int .i64 t), .v (.int .i64 m), .v (.int .i64 L), .sl 1 0 1 0 L c, .v (.int .i64 part)], some es, some [.arr N .u64 f], some [.arr N1 .u64 g1], some [.arr N2 .u64 g2], some [.arr N3 .u64 g3],
         some [.v (.int .i64 pass), .v (.int .i64 slice), .v (.int .i64 lane), .v (.int .i64 i)], some [.arr 128 .u64 zp], some [.arr 128 .u64 (xorK (Ys ah o) od k)]]⟩) 128 (by kernel_rfl) ?_ ?_ ?_
      · (refine Z2 [0, 1, 2, 3, 4, 5, 6, 7, 9] (by decide) (by simp) (by rfl) ?_ ?_; (focus (first | with_reducible rfl | (simp only [List.map_cons, List.map_nil, List.cons_append, List.nil_append, List.getElem?_cons_zero, List.getElem?_cons_succ, renB, renL, Option.map_some, Option.map_none, AV.ren, Z4, List.getD_cons_zero, List.getD_cons_succ, xorK, hren] <;> with_reducible rfl))); simp only [exF, List.map_cons, List.map_nil, List.length_cons, List.length_nil, Nat.reduceAdd, AV.ren, renL, Z4, Nat.reduceEqDiff, if_true, if_false, reduceIte, Option.some.injEq, reduceCtorEq, Int.cast_ofNat_Int, xorK, hren])
      · intro k hk
        have hxl : (xorK (Ys ah o) od k).length = 128 := by rw [Qu, hpl]
        have hS : xorK (Ys ah o) od (k + 1) = (xorK (Ys ah o) od k).set k (xorU ((xorK (Ys ah o) od k).getD k 0) (od.getD k 0)) := rfl
        rw [hS]
        obtain ⟨x, hx⟩ : ∃ x, xorK (Ys ah o) od k = x := ⟨_, rfl⟩
        rw [hx] at hxl ⊢
        repeat (first | simp only [Jt, Qk, Q5, Nat.reduceBEq, reduceIte, Nat.reduceEqDiff, reduceCtorEq, ne_eq, if_true, if_false, exA, exA, tabs, exB, exD, Zl, Zp, Ze, Zi, Zn, AV.isAggV, AV.parts, AV.one, AV.solid, Zf, Zb, Zj, Zc, Zk, Zh, Zg, bndA, lenA, Zd, rowOf, Za, intsOf, Zo, Nat.reduceAdd, Nat.reduceSub, Nat.reduceMul, Nat.reduceLeDiff, Nat.reduceLT, Nat.reduceGT, Int.reduceToNat, Int.reduceLE, Int.reduceLT, Int.reduceEq, Int.reduceNe, Int.reduceAdd, Int.reduceSub, Int.reduceMul, Int.reduceNeg, ite_true, ite_false, dite_true, xc10, xc11, xc12, xc13, xc14, xc15, xc16, xc17, xc20, xc21, xc22, xc23, xc24, xc25, xc26, zbo, Zm, hr] | simp (maxSteps := 1000000) (disch := omega) only [exE, Int.toNat_natCast, Int.reduceToNat])
        repeat (with_reducible refine And.intro (by first | omega | assumption) ?_)
        (refine Z1 ?_ ?_; (focus (first | with_reducible rfl | (simp only [] <;> with_reducible rfl))); simp only [exF, Nat.reduceEqDiff, if_true, if_false, reduceIte, Option.some.injEq, reduceCtorEq, Int.cast_ofNat_Int])
      · have hxt : List.take 128 (xorK (Ys ah o) od 128) = xorK (Ys ah o) od 128 := List.take_of_length_le (by rw [Qu, hpl]; omega)
        have hst : za3 pass slice lane i t L part fs f = List.take ((sp + i) * 128) f ++ xorK (Ys ah o) od 128 ++ List.drop ((sp + i) * 128 + 128) f := by
          unfold za3 putAt; rw [if_pos hp0, hp, ← hsp, hod]
        rw [hst]
        repeat (first | simp only [Jt, Qk, Q5, Nat.reduceBEq, reduceIte, Nat.reduceEqDiff, reduceCtorEq, ne_eq, if_true, if_false, exA, exA, tabs, exB, exD, Zl, Zp, Ze, Zi, Zn, AV.isAggV, AV.parts, AV.one, AV.solid, Zf, Zb, Zj, Zc, Zk, Zh, Zg, bndA, lenA, Zd, rowOf, Za, intsOf, Zo, Nat.reduceAdd, Nat.reduceSub, Nat.reduceMul, Nat.reduceLeDiff, Nat.reduceLT, Nat.reduceGT, Int.reduceToNat, Int.reduceLE, Int.reduceLT, Int.reduceEq, Int.reduceNe, Int.reduceAdd, Int.reduceSub, Int.reduceMul, Int.reduceNeg, ite_true, ite_false, dite_true, xc10, xc11, xc12, xc13, xc14, xc15, xc16, xc17, xc20, xc21, xc22, xc23, xc24, xc25, xc26, zbo, Zm, hr, hN1, and_false, hxt] | simp (maxSteps := 1000000) (disch := omega) only [exE, Int.toNat_natCast, Int.reduceToNat])
        repeat (with_reducible refine And.intro (by first | omega | assumption) ?_)
        (refine Z2 [0, 1, 2, 3, 4, 5, 6, 7] (by decide) (by simp) (by rfl) ?_ ?_; (focus (first | with_reducible rfl | (simp only [List.map_cons, List.map_nil, List.cons_append, List.nil_append, List.getElem?_cons_zero, List.getElem?_cons_succ, renB, renL, Option.map_some, Option.map_none, AV.ren, Z4, List.getD_cons_zero, List.getD_cons_succ, hren] <;> with_reducible rfl))); simp only [exF, List.map_cons, List.map_nil, List.length_cons, List.length_nil, Nat.reduceAdd, AV.ren, renL, Z4, Nat.reduceEqDiff, if_true, if_false, reduceIte, Option.some.injEq, reduceCtorEq, Int.cast_ofNat_Int, hren])
  · repeat (first | simp only [Jt, Qk, Q5, Nat.reduceBEq, reduceIte, Nat.reduceEqDiff, reduceCtorEq, ne_eq, if_true, if_false, exA, exA, tabs, exB, exD, Zl, Zp, Ze, Zi, Zn, AV.isAggV, AV.parts, AV.one, AV.solid, Zf, Zb, Zj, Zc, Zk, Zh, Zg, bndA, lenA, Zd, rowOf, Za, intsOf, Zo, Nat.reduceAdd, Nat.reduceSub, Nat.reduceMul, Nat.reduceLeDiff, Nat.reduceLT, Nat.reduceGT, Int.reduceToNat, Int.reduceLE, Int.reduceLT, Int.reduceEq, Int.reduceNe, Int.reduceAdd, Int.reduceSub, Int.reduceMul, Int.reduceNeg, ite_true, ite_false, dite_true, xc10, xc11, xc12, xc13, xc14, xc15, xc16, xc17, xc20, xc21, xc22, xc23, xc24, xc25, xc26, zbo, Zm, hr] | simp (maxSteps := 1000000) (disch := omega) only [exE, Int.toNat_natCast, Int.reduceToNat])
    exact ⟨_, _, rfl⟩
theorem z8r (pass slice lane t L part m c n N N1 N2 N3 : Nat) (hn : n = 4 * part) (hN : N = n * 128) (es : List AV) (fs : List (List Int)) (f0 g1 g2 g3 zp : List Int) (hzp : zp = List.replicate 128 0) (h1 : pass ≤ 7) (h2 : slice < 4) (h3 : lane < L) (hL : 1 ≤ L ∧ L ≤ 4) (h5 : t ≤ 8) (h7 : 2 ≤ part ∧ part ≤ 64)
    (hf0 : f0.length = N) (hw0 : Wds f0) (hfl : fs.length = L) (hfn : ∀ g ∈ fs, g.length = N) (hp0 : 0 < pass)
    (hcell : Y2 es lane = some (.sl 2 0 128 0 n n))
    (hren : ∀ l len, renL (Z4 (0 :: 1 :: 2 :: 3 :: 4 :: 5 :: l) len) es = es)
    (hall : ∀ M f rest, f.length = N → allOf (Jr (M :: some es :: some [.arr N .u64 f] :: some [.arr N1 .u64 g1] :: some [.arr N2 .u64 g2] :: some [.arr N3 .u64 g3] :: rest) (4 * part)) es = some (fs.set lane f)) :
    Zs Try.prog 63 [.ptr 0 0 0, .agg [.v (.int .i64 pass), .v (.int .i64 slice), .v (.int .i64 lane), .v (.int .i64 0)]]
      [some [.v (.int .i64 t), .v (.int .i64 m), .v (.int .i64 L), .sl 1 0 1 0 L c, .v (.int .i64 part)], some es, some [.arr N .u64 f0], some [.arr N1 .u64 g1], some [.arr N2 .u64 g2], some [.arr N3 .u64 g3]]
      fun v h' => v = .tup [] ∧ h' = [some [.v (.int .i64 t), .v (.int .i64 m), .v (.int .i64 L), .sl 1 0 1 0 L c, .v (.int .i64 part)], some es, some [.arr N .u64 (Yr pass slice lane t L part 0 fs f0 part)], some [.arr N1 .u64 g1], some [.arr N2 .u64 g2], some [.arr N3 .u64 g3]] := by
  refine Zs.weak (C := c26o 6) rfl (κ := fun v h' => v = .tup [] ∧ ∃ x y, h' = [some [.v (.int .i64 t), .v (.int .i64 m), .v (.int .i64 L), .sl 1 0 1 0 L c, .v (.int .i64 part)], some es, some [.arr N .u64 (Yr pass slice lane t L part 0 fs f0 part)], some [.arr N1 .u64 g1], some [.arr N2 .u64 g2], some [.arr N3 .u64 g3], x, y]) ?_ ?_
  · exact z40 pass slice lane t L part m c n N N1 N2 N3 hn hN es fs f0 g1 g2 g3 zp hzp h1 h2 h3 hL h5 h7 hf0 hw0 hfl hfn hp0 hcell hren hall
  · rintro _ _ ⟨rfl, x, y, rfl⟩
    exact ⟨_, _, Z2 [0, 1, 2, 3, 4, 5] (by decide) (by simp) (by rfl) (by simp only [List.map_cons, List.map_nil, List.getElem?_cons_zero, List.getElem?_cons_succ, renB, Option.map_some, renL, AV.ren, hren, Z4, List.getD_cons_zero, List.getD_cons_succ]) ⟨rfl, trivial⟩, rfl, rfl⟩
end Go.Proofs.Ytfnfmbikooeiaaa
namespace Go.Proofs.Ytfnfmbikooeiaaa
open Go.Ax
theorem z4y (slice lane t L part m c n N N1 N2 N3 : Nat) (hn : n = 4 * part) (hN : N = n * 128) (es : List AV) (fs : List (List Int)) (f0 g1 g2 g3 zp : List Int) (hzp : zp = List.replicate 128 0) (h2 : slice < 4) (h2b : 2 ≤ slice) (h3 : lane < L) (hL : 1 ≤ L ∧ L ≤ 4) (h5 : t ≤ 8) (h7 : 2 ≤ part ∧ part ≤ 64)
    (hf0 : f0.length = N) (hw0 : Wds f0) (hfl : fs.length = L) (hfn : ∀ g ∈ fs, g.length = N)
    (hcell : Y2 es lane = some (.sl 2 0 128 0 n n))
    (hren : ∀ l len, renL (Z4 (0 :: 1 :: 2 :: 3 :: 4 :: 5 :: l) len) es = es)
    (hall : ∀ M f rest, f.length = N → allOf (Jr (M :: some es :: some [.arr N .u64 f] :: some [.arr N1 .u64 g1] :: some [.arr N2 .u64 g2] :: some [.arr N3 .u64 g3] :: rest) (4 * part)) es = some (fs.set lane f)) :
    Zs Try.prog 63 [.ptr 0 0 0, .agg [.v (.int .i64 0), .v (.int .i64 slice), .v (.int .i64 lane), .v (.int .i64 0)]]
      [some [.v (.int .i64 t), .v (.int .i64 m), .v (.int .i64 L), .sl 1 0 1 0 L c, .v (.int .i64 part)], some es, some [.arr N .u64 f0], some [.arr N1 .u64 g1], some [.arr N2 .u64 g2], some [.arr N3 .u64 g3]]
      fun v h' => v = .tup [] ∧ ∃ x y, h' = [some [.v (.int .i64 t), .v (.int .i64 m), .v (.int .i64 L), .sl 1 0 1 0 L c, .v (.int .i64 part)], some es, some [.arr N .u64 (Yr 0 slice lane t L part 0 fs f0 part)], some [.arr N1 .u64 g1], some [.arr N2 .u64 g2], some [.arr N3 .u64 g3], x, y] := by
  obtain ⟨sp, hsp⟩ : ∃ sp, sp = slice * part := ⟨_, rfl⟩
  have hsp1 : sp + part ≤ n := by rw [hsp, hn]; have := Nat.mul_le_mul_right part (show slice ≤ 3 by omega); omega
  have wsp : IntKind.i64.wrap ((slice : Int) * (part : Int)) = (sp : Int) := by rw [← Int.natCast_mul, ← hsp]; exact Zz _ (by omega)
  have hsf : ((slice : Int) < 2) = False := by simp; omega
  have hs0 : ((slice : Int) == 0) = false := by simp; omega
  refine Zq (zbl 6) Try.func63 rfl ⟨by kernel_rfl, by show 2 ≤ _; decide, by kernel_rfl, by kernel_rfl⟩ rfl ?_; have hr : Try.f63.results.toList = [] := rfl
  repeat (first | simp only [Jt, Qk, Q5, Nat.reduceBEq, reduceIte, Nat.reduceEqDiff, reduceCtorEq, ne_eq, if_true, if_false, exA, exA, tabs, exB, exD, Zl, Zp, Ze, Zi, Zn, AV.isAggV, AV.parts, AV.one, AV.solid, Zf, Zb, Zj, Zc, Zk, Zh, Zg, bndA, lenA, Zd, rowOf, Za, intsOf, Zo, Nat.reduceAdd, Nat.reduceSub, Nat.reduceMul, Nat.reduceLeDiff, Nat.reduceLT, Nat.reduceGT, Int.reduceToNat, Int.reduceLE, Int.reduceLT, Int.reduceEq, Int.reduceNe, Int.reduceAdd, Int.reduceSub, Int.reduceMul, Int.reduceNeg, ite_true, ite_false, dite_true, xc10, xc11, xc12, xc13, xc14, xc15, xc16, xc17, xc20, xc21, xc22, xc23, xc24, xc25, xc26, zbo, Zm, hr, hcell, hsf, hs0] | simp (maxSteps := 1000000) (disch := omega) only [exE, Int.toNat_natCast, Int.reduceToNat])
  rw [← hzp]
  repeat (with_reducible refine And.intro (by first | omega | assumption) ?_)
  refine Z3 (zbl 6) (fun k => ⟨envL [(0, .ptr 0 0 0), (3, .ptr 6 0 0), (4, .sl 2 0 128 0 n n), (5, .v (.bool false)), (6, .ptr 7 0 0)],
    [some [.v (.int .i64 t), .v (.int .i64 m), .v (.int .i64 L), .sl 1 0 1 0 L c, .v (.int .i64 part)], some es, some [.arr N .u64 (Yr 0 slice lane t L part 0 fs f0 k)], some [.arr N1 .u64 g1], some [.arr N2 .u64 g2], some [.arr N3 .u64 g3],
     some [.v (.int .i64 0), .v (.int .i64 slice), .v (.int .i64 lane), .v (.int .i64 (k))], some [.arr 128 .u64 zp]]⟩) part (by kernel_rfl) ?_ ?_ ?_
  · (refine Z1 ?_ ?_; (focus (first | with_reducible rfl | (simp only [Yr, Int.natCast_zero, Nat.add_zero, Int.cast_ofNat_Int] <;> with_reducible rfl))); simp only [exF, Nat.reduceEqDiff, if_true, if_false, reduceIte, Option.some.injEq, reduceCtorEq, Int.cast_ofNat_Int, Yr, Int.natCast_zero, Nat.add_zero, Int.cast_ofNat_Int])
  · intro i hi
    have hfk := zb3 0 slice lane t L part 0 fs (by rw [hf0, hN, hn]) h2 i (by omega)
    have hwk := zfs 0 slice lane t L part 0 fs (by rw [hf0, hN, hn]) hw0 h2 (by omega) i (by omega)
    rw [← hn, ← hN] at hfk
    have hS : Yr 0 slice lane t L part 0 fs f0 (i + 1) = za3 0 slice lane (0 + i) t L part fs (Yr 0 slice lane t L part 0 fs f0 i) := rfl
    rw [hS]
    obtain ⟨f, hff⟩ : ∃ f, Yr 0 slice lane t L part 0 fs f0 i = f := ⟨_, rfl⟩
    rw [hff] at hfk hwk ⊢
    clear hff hS
    rw [Nat.zero_add]
    have hall2 := fun M rest => hall M f rest hfk
    obtain ⟨j, hj⟩ : ∃ j, j = (sp + i + n - 1) % n := ⟨_, rfl⟩
    have hjl : j < n := by rw [hj]; exact Nat.mod_lt _ (by omega)
    have hlt : ((i : Int) < (part : Int)) = True := by simp; omega
    have wh : IntKind.i64.wrap ((sp : Int) + (i : Int)) = ((sp + i : Nat) : Int) := by rw [Zz _ (by omega)]; omega
    have wl : IntKind.i64.wrap (((sp + i : Nat) : Int) + ((n : Nat) : Int)) = ((sp + i + n : Nat) : Int) := by rw [Zz _ (by omega)]; omega
    have wl1 : IntKind.i64.wrap (((sp + i + n : Nat) : Int) - 1) = ((sp + i + n - 1 : Nat) : Int) := by rw [Zz _ (by omega)]; omega
    have wm : ((sp + i + n - 1 : Nat) : Int).tmod ((n : Nat) : Int) = (j : Int) := by rw [← Int.ofNat_tmod, hj]
    have wj : ((j : Int)).toNat = j := Int.toNat_natCast j
    have hn0 : (((n : Nat) : Int) = 0) = False := by simp; omega
    have hsl : (fs.set lane f).length = L := by rw [List.length_set]; exact hfl
    have hahl : (Yx f j).length = 128 := zap (n := n) (by rw [hfk, hN]) hjl
    have hN1 : (N = 128) = False := by simp; omega
    have hW := hwk.page j 0
    obtain ⟨ah, hah⟩ : ∃ ah, Yx f j = ah := ⟨_, rfl⟩
    rw [hah] at hahl hW
    obtain ⟨w, hw⟩ := Int.eq_ofNat_of_zero_le hW.1
    have hw2 : w < 18446744073709551616 := by have := hW.2; omega
    have hah2 : zcs slice i part f = ah := by unfold zcs; rw [← hn, ← hsp, ← hj, hah]
    obtain ⟨o, ho⟩ : ∃ o, o = zkm 0 slice lane i L part (fs.set lane f) w := ⟨_, rfl⟩
    have hol : o.length = 128 := by rw [ho]; exact zid hn (by omega) hsl h3 (by rw [← hN]; exact zag hfn hfk)
    have hoth : ∀ M rest, othL 0 slice lane i w (M :: some es :: some [.arr N .u64 f] :: some [.arr N1 .u64 g1] :: some [.arr N2 .u64 g2] :: some [.arr N3 .u64 g3] :: rest) t L part L es = some (.one (.arr 128 .u64 o) (M :: some es :: some [.arr N .u64 f] :: some [.arr N1 .u64 g1] :: some [.arr N2 .u64 g2] :: some [.arr N3 .u64 g3] :: rest)) := by
      intro M rest
      rw [ho]
      exact zn0 (pass := 0) (slice := slice) (hall2 M rest) (by omega) (by omega) h3 hi h5 hL h7 (by omega) hsl hw2
    have hpl : (Ys ah o).length = 128 := by rw [zao, hahl]
    have hpt : List.take 128 (Ys ah o) = Ys ah o := List.take_of_length_le (by omega)
    have hat : List.take 128 ah = ah := List.take_of_length_le (by omega)
    have hp : zdf 0 slice lane i t L part fs f = Ys ah o := by
      unfold zdf stepW
      rw [if_neg (by omega), hah2, hw, Int.toNat_natCast, ho]
    have hst : za3 0 slice lane i t L part fs f = List.take ((sp + i) * 128) f ++ Ys ah o ++ List.drop ((sp + i) * 128 + 128) f := by
      unfold za3 putAt; rw [if_neg (by omega), hp, ← hsp]
    rw [hst]
    simp only [Jt, Qk, Q5, Nat.reduceBEq, reduceIte, Nat.reduceEqDiff, reduceCtorEq, ne_eq, if_true, if_false, exA, exA, tabs, exB, exD, Zl, Zp, Ze, Zi, Zn, AV.isAggV, AV.parts, AV.one, AV.solid, Zf, Zb, Zj, Zc, Zk, Zh, Zg, bndA, lenA, Zd, rowOf, Za, intsOf, Zo, Nat.reduceAdd, Nat.reduceSub, Nat.reduceMul, Nat.reduceLeDiff, Nat.reduceLT, Nat.reduceGT, Int.reduceToNat, Int.reduceLE, Int.reduceLT, Int.reduceEq, Int.reduceNe, Int.reduceAdd, Int.reduceSub, Int.reduceMul, Int.reduceNeg, ite_true, ite_false, dite_true, xc10, xc11, xc12, xc13, xc14, xc15, xc16, xc17, xc20, xc21, xc22, xc23, xc24, xc25, xc26, zbo, Zm, hr, wsp, hall2, hlt, wh, wl, wl1, wm, wj, hn0]
    repeat (with_reducible refine And.intro (by first | omega | assumption) ?_)
    (rw [show List.take 128 (List.drop (j * 128) f) = Yx f j from rfl, hah, hw])
    skip
    refine zir (zbl 6) (.first 0 (.first 1 (.first 2 (.first 3 (.fork 4 (.fork 5 (.fork 6 (.fork 7 .done .stop) .stop) (.fork 6 (.fork 5 (.fork 7 .done .stop) .stop) .stop)) (.fork 6 (.fork 4 (.fork 5 (.fork 7 .done .stop) .stop) .stop) .stop))))))
      ⟨envL [(0, .ptr 0 0 0), (3, .ptr 6 0 0), (4, .sl 2 0 128 0 n n), (5, .v (.bool false)), (6, .ptr 7 0 0), (7, .v (.int .i64 ((sp + i : Nat)))), (10, .ptr 9 0 0)],
      [some [.v (.int .i64 t), .v (.int .i64 m), .v (.int .i64 L), .sl 1 0 1 0 L c, .v (.int .i64 part)], some es, some [.arr N .u64 f], some [.arr N1 .u64 g1], some [.arr N2 .u64 g2], some [.arr N3 .u64 g3],
       some [.v (.int .i64 0), .v (.int .i64 slice), .v (.int .i64 lane), .v (.int .i64 i)], some [.arr 128 .u64 zp], some [.arr 128 .u64 ah], some [.arr 128 .u64 (Ys ah o)]]⟩ (by kernel_rfl) ?_ ?_
    · repeat (first | simp only [Jt, Qk, Q5, Nat.reduceBEq, reduceIte, Nat.reduceEqDiff, reduceCtorEq, ne_eq, if_true, if_false, exA, exA, tabs, exB, exD, Zl, Zp, Ze, Zi, Zn, AV.isAggV, AV.parts, AV.one, AV.solid, Zf, Zb, Zj, Zc, Zk, Zh, Zg, bndA, lenA, Zd, rowOf, Za, intsOf, Zo, Nat.reduceAdd, Nat.reduceSub, Nat.reduceMul, Nat.reduceLeDiff, Nat.reduceLT, Nat.reduceGT, Int.reduceToNat, Int.reduceLE, Int.reduceLT, Int.reduceEq, Int.reduceNe, Int.reduceAdd, Int.reduceSub, Int.reduceMul, Int.reduceNeg, ite_true, ite_false, dite_true, xc10, xc11, xc12, xc13, xc14, xc15, xc16, xc17, xc20, xc21, xc22, xc23, xc24, xc25, xc26, zbo, Zm, hr, hoth, hat, hahl, hol, hpl, hpt] | simp (maxSteps := 1000000) (disch := omega) only [exE, Int.toNat_natCast, Int.reduceToNat])
      repeat' (first | exact trivial | rfl | refine And.intro ?_ ?_)
      all_goals (refine Z1 ?_ ?_; (focus (first | with_reducible rfl | (simp only [] <;> with_reducible rfl))); simp only [exF, Nat.reduceEqDiff, if_true, if_false, reduceIte, Option.some.injEq, reduceCtorEq, Int.cast_ofNat_Int])
    · repeat (first | simp only [Jt, Qk, Q5, Nat.reduceBEq, reduceIte, Nat.reduceEqDiff, reduceCtorEq, ne_eq, if_true, if_false, exA, exA, tabs, exB, exD, Zl, Zp, Ze, Zi, Zn, AV.isAggV, AV.parts, AV.one, AV.solid, Zf, Zb, Zj, Zc, Zk, Zh, Zg, bndA, lenA, Zd, rowOf, Za, intsOf, Zo, Nat.reduceAdd, Nat.reduceSub, Nat.reduceMul, Nat.reduceLeDiff, Nat.reduceLT, Nat.reduceGT, Int.reduceToNat, Int.reduceLE, Int.reduceLT, Int.reduceEq, Int.reduceNe, Int.reduceAdd, Int.reduceSub, Int.reduceMul, Int.reduceNeg, ite_true, ite_false, dite_true, xc10, xc11, xc12, xc13, xc14, xc15, xc16, xc17, xc20, xc21, xc22, xc23, xc24, xc25, xc26, zbo, Zm, hr, hN1, and_false, hpt] | simp (maxSteps := 1000000) (disch := omega) only [exE, Int.toNat_natCast, Int.reduceToNat])
      repeat (with_reducible refine And.intro (by first | omega | assumption) ?_)
      (refine Z2 [0, 1, 2, 3, 4, 5, 6, 7] (by decide) (by simp) (by rfl) ?_ ?_; (focus (first | with_reducible rfl | (simp only [List.map_cons, List.map_nil, List.cons_append, List.nil_append, List.getElem?_cons_zero, List.getElem?_cons_succ, renB, renL, Option.map_some, Option.map_none, AV.ren, Z4, List.getD_cons_zero, List.getD_cons_succ, hren] <;> with_reducible rfl))); simp only [exF, List.map_cons, List.map_nil, List.length_cons, List.length_nil, Nat.reduceAdd, AV.ren, renL, Z4, Nat.reduceEqDiff, if_true, if_false, reduceIte, Option.some.injEq, reduceCtorEq, Int.cast_ofNat_Int, hren])
  · repeat (first | simp only [Jt, Qk, Q5, Nat.reduceBEq, reduceIte, Nat.reduceEqDiff, reduceCtorEq, ne_eq, if_true, if_false, exA, exA, tabs, exB, exD, Zl, Zp, Ze, Zi, Zn, AV.isAggV, AV.parts, AV.one, AV.solid, Zf, Zb, Zj, Zc, Zk, Zh, Zg, bndA, lenA, Zd, rowOf, Za, intsOf, Zo, Nat.reduceAdd, Nat.reduceSub, Nat.reduceMul, Nat.reduceLeDiff, Nat.reduceLT, Nat.reduceGT, Int.reduceToNat, Int.reduceLE, Int.reduceLT, Int.reduceEq, Int.reduceNe, Int.reduceAdd, Int.reduceSub, Int.reduceMul, Int.reduceNeg, ite_true, ite_false, dite_true, xc10, xc11, xc12, xc13, xc14, xc15, xc16, xc17, xc20, xc21, xc22, xc23, xc24, xc25, xc26, zbo, Zm, hr] | simp (maxSteps := 1000000) (disch := omega) only [exE, Int.toNat_natCast, Int.reduceToNat])
    exact ⟨_, _, rfl⟩
theorem z8q (slice lane t L part m c n N N1 N2 N3 : Nat) (hn : n = 4 * part) (hN : N = n * 128) (es : List AV) (fs : List (List Int)) (f0 g1 g2 g3 zp : List Int) (hzp : zp = List.replicate 128 0) (h2 : slice < 4) (h2b : 2 ≤ slice) (h3 : lane < L) (hL : 1 ≤ L ∧ L ≤ 4) (h5 : t ≤ 8) (h7 : 2 ≤ part ∧ part ≤ 64)
    (hf0 : f0.length = N) (hw0 : Wds f0) (hfl : fs.length = L) (hfn : ∀ g ∈ fs, g.length = N)
    (hcell : Y2 es lane = some (.sl 2 0 128 0 n n))
    (hren : ∀ l len, renL (Z4 (0 :: 1 :: 2 :: 3 :: 4 :: 5 :: l) len) es = es)
    (hall : ∀ M f rest, f.length = N → allOf (Jr (M :: some es :: some [.arr N .u64 f] :: some [.arr N1 .u64 g1] :: some [.arr N2 .u64 g2] :: some [.arr N3 .u64 g3] :: rest) (4 * part)) es = some (fs.set lane f)) :
    Zs Try.prog 63 [.ptr 0 0 0, .agg [.v (.int .i64 0), .v (.int .i64 slice), .v (.int .i64 lane), .v (.int .i64 0)]]
      [some [.v (.int .i64 t), .v (.int .i64 m), .v (.int .i64 L), .sl 1 0 1 0 L c, .v (.int .i64 part)], some es, some [.arr N .u64 f0], some [.arr N1 .u64 g1], some [.arr N2 .u64 g2], some [.arr N3 .u64 g3]]
      fun v h' => v = .tup [] ∧ h' = [some [.v (.int .i64 t), .v (.int .i64 m), .v (.int .i64 L), .sl 1 0 1 0 L c, .v (.int .i64 part)], some es, some [.arr N .u64 (Yr 0 slice lane t L part 0 fs f0 part)], some [.arr N1 .u64 g1], some [.arr N2 .u64 g2], some [.arr N3 .u64 g3]] := by
  refine Zs.weak (C := c26o 6) rfl (κ := fun v h' => v = .tup [] ∧ ∃ x y, h' = [some [.v (.int .i64 t), .v (.int .i64 m), .v (.int .i64 L), .sl 1 0 1 0 L c, .v (.int .i64 part)], some es, some [.arr N .u64 (Yr 0 slice lane t L part 0 fs f0 part)], some [.arr N1 .u64 g1], some [.arr N2 .u64 g2], some [.arr N3 .u64 g3], x, y]) ?_ ?_
  · exact z4y slice lane t L part m c n N N1 N2 N3 hn hN es fs f0 g1 g2 g3 zp hzp h2 h2b h3 hL h5 h7 hf0 hw0 hfl hfn hcell hren hall
  · rintro _ _ ⟨rfl, x, y, rfl⟩
    exact ⟨_, _, Z2 [0, 1, 2, 3, 4, 5] (by decide) (by simp) (by rfl) (by simp only [List.map_cons, List.map_nil, List.getElem?_cons_zero, List.getElem?_cons_succ, renB, Option.map_some, renL, AV.ren, hren, Z4, List.getD_cons_zero, List.getD_cons_succ]) ⟨rfl, trivial⟩, rfl, rfl⟩
end Go.Proofs.Ytfnfmbikooeiaaa
namespace Go.Proofs.Ytfnfmbikooeiaaa
open Go.Ax
theorem z4x (lane t L part m c n N N1 N2 N3 : Nat) (hn : n = 4 * part) (hN : N = n * 128) (es : List AV) (fs : List (List Int)) (f0 g1 g2 g3 zp : List Int) (hzp : zp = adrL 0 1 lane 0 t L part) (h3 : lane < L) (hL : 1 ≤ L ∧ L ≤ 4) (h5 : t ≤ 8) (h7 : 2 ≤ part ∧ part ≤ 64)
    (hf0 : f0.length = N) (hw0 : Wds f0) (hfl : fs.length = L) (hfn : ∀ g ∈ fs, g.length = N)
    (hcell : Y2 es lane = some (.sl 2 0 128 0 n n))
    (hren : ∀ l len, renL (Z4 (0 :: 1 :: 2 :: 3 :: 4 :: 5 :: l) len) es = es)
    (hall : ∀ M f rest, f.length = N → allOf (Jr (M :: some es :: some [.arr N .u64 f] :: some [.arr N1 .u64 g1] :: some [.arr N2 .u64 g2] :: some [.arr N3 .u64 g3] :: rest) (4 * part)) es = some (fs.set lane f)) :
    Zs Try.prog 63 [.ptr 0 0 0, .agg [.v (.int .i64 0), .v (.int .i64 1), .v (.int .i64 lane), .v (.int .i64 0)]]
      [some [.v (.int .i64 t), .v (.int .i64 m), .v (.int .i64 L), .sl 1 0 1 0 L c, .v (.int .i64 part)], some es, some [.arr N .u64 f0], some [.arr N1 .u64 g1], some [.arr N2 .u64 g2], some [.arr N3 .u64 g3]]
      fun v h' => v = .tup [] ∧ ∃ x y, h' = [some [.v (.int .i64 t), .v (.int .i64 m), .v (.int .i64 L), .sl 1 0 1 0 L c, .v (.int .i64 part)], some es, some [.arr N .u64 (Yr 0 1 lane t L part 0 fs f0 part)], some [.arr N1 .u64 g1], some [.arr N2 .u64 g2], some [.arr N3 .u64 g3], x, y] := by
  obtain ⟨sp, hsp⟩ : ∃ sp, sp = 1 * part := ⟨_, rfl⟩
  have hsp1 : sp + part ≤ n := by omega
  have wsp : IntKind.i64.wrap ((1 : Int) * (part : Int)) = (sp : Int) := by rw [Zz _ (by omega)]; omega
  refine Zq (zbl 6) Try.func63 rfl ⟨by kernel_rfl, by show 2 ≤ _; decide, by kernel_rfl, by kernel_rfl⟩ rfl ?_; have hr : Try.f63.results.toList = [] := rfl
  repeat (first | simp only [Jt, Qk, Q5, Nat.reduceBEq, reduceIte, Nat.reduceEqDiff, reduceCtorEq, ne_eq, if_true, if_false, exA, exA, tabs, exB, exD, Zl, Zp, Ze, Zi, Zn, AV.isAggV, AV.parts, AV.one, AV.solid, Zf, Zb, Zj, Zc, Zk, Zh, Zg, bndA, lenA, Zd, rowOf, Za, intsOf, Zo, Nat.reduceAdd, Nat.reduceSub, Nat.reduceMul, Nat.reduceLeDiff, Nat.reduceLT, Nat.reduceGT, Int.reduceToNat, Int.reduceLE, Int.reduceLT, Int.reduceEq, Int.reduceNe, Int.reduceAdd, Int.reduceSub, Int.reduceMul, Int.reduceNeg, ite_true, ite_false, dite_true, xc10, xc11, xc12, xc13, xc14, xc15, xc16, xc17, xc20, xc21, xc22, xc23, xc24, xc25, xc26, zbo, Zm, hr, hcell] | simp (maxSteps := 1000000) (disch := omega) only [exE, Int.toNat_natCast, Int.reduceToNat])
  have hzl : zp.length = 128 := by rw [hzp]; unfold adrL; rw [zao]; rfl
  have hzw : Wds zp := by rw [hzp]; exact zpl (by decide)
  have hzt : List.take 128 zp = zp := List.take_of_length_le (by omega)
  rw [← hzp]
  repeat (with_reducible refine And.intro (by first | omega | assumption) ?_)
  try simp only [hzt, hzl]
  repeat (with_reducible refine And.intro (by first | omega | assumption) ?_)
  refine Z3 (zbl 6) (fun k => ⟨envL [(0, .ptr 0 0 0), (3, .ptr 6 0 0), (4, .sl 2 0 128 0 n n), (5, .v (.bool true)), (6, .ptr 7 0 0)],
    [some [.v (.int .i64 t), .v (.int .i64 m), .v (.int .i64 L), .sl 1 0 1 0 L c, .v (.int .i64 part)], some es, some [.arr N .u64 (Yr 0 1 lane t L part 0 fs f0 k)], some [.arr N1 .u64 g1], some [.arr N2 .u64 g2], some [.arr N3 .u64 g3],
     some [.v (.int .i64 0), .v (.int .i64 1), .v (.int .i64 lane), .v (.int .i64 (k))], some [.arr 128 .u64 zp]]⟩) part (by kernel_rfl) ?_ ?_ ?_
  · (refine Z1 ?_ ?_; (focus (first | with_reducible rfl | (simp only [Yr, Int.natCast_zero, Nat.add_zero, Int.cast_ofNat_Int] <;> with_reducible rfl))); simp only [exF, Nat.reduceEqDiff, if_true, if_false, reduceIte, Option.some.injEq, reduceCtorEq, Int.cast_ofNat_Int, Yr, Int.natCast_zero, Nat.add_zero, Int.cast_ofNat_Int])
  · intro i hi
    have hfk := zb3 0 1 lane t L part 0 fs (by rw [hf0, hN, hn]) (by decide) i (by omega)
    have hwk := zfs 0 1 lane t L part 0 fs (by rw [hf0, hN, hn]) hw0 (by decide) (by omega) i (by omega)
    rw [← hn, ← hN] at hfk
    have hS : Yr 0 1 lane t L part 0 fs f0 (i + 1) = za3 0 1 lane (0 + i) t L part fs (Yr 0 1 lane t L part 0 fs f0 i) := rfl
    rw [hS]
    obtain ⟨f, hff⟩ : ∃ f, Yr 0 1 lane t L part 0 fs f0 i = f := ⟨_, rfl⟩
    rw [hff] at hfk hwk ⊢
    clear hff hS
    rw [Nat.zero_add]
    have hall2 := fun M rest => hall M f rest hfk
    obtain ⟨j, hj⟩ : ∃ j, j = (sp + i + n - 1) % n := ⟨_, rfl⟩
    have hjl : j < n := by rw [hj]; exact Nat.mod_lt _ (by omega)
    have hlt : ((i : Int) < (part : Int)) = True := by simp; omega
    have wh : IntKind.i64.wrap ((sp : Int) + (i : Int)) = ((sp + i : Nat) : Int) := by rw [Zz _ (by omega)]; omega
    have wl : IntKind.i64.wrap (((sp + i : Nat) : Int) + ((n : Nat) : Int)) = ((sp + i + n : Nat) : Int) := by rw [Zz _ (by omega)]; omega
    have wl1 : IntKind.i64.wrap (((sp + i + n : Nat) : Int) - 1) = ((sp + i + n - 1 : Nat) : Int) := by rw [Zz _ (by omega)]; omega
    have wm : ((sp + i + n - 1 : Nat) : Int).tmod ((n : Nat) : Int) = (j : Int) := by rw [← Int.ofNat_tmod, hj]
    have wj : ((j : Int)).toNat = j := Int.toNat_natCast j
    have hn0 : (((n : Nat) : Int) = 0) = False := by simp; omega
    have hsl : (fs.set lane f).length = L := by rw [List.length_set]; exact hfl
    have hahl : (Yx f j).length = 128 := zap (n := n) (by rw [hfk, hN]) hjl
    have hN1 : (N = 128) = False := by simp; omega
    have hW := hzw i
    have wi : ((i : Int)).tmod 128 = (i : Int) := by rw [Int.tmod_eq_of_lt (by omega) (by omega)]
    obtain ⟨ah, hah⟩ : ∃ ah, Yx f j = ah := ⟨_, rfl⟩
    rw [hah] at hahl
    obtain ⟨w, hw⟩ := Int.eq_ofNat_of_zero_le hW.1
    have hw2 : w < 18446744073709551616 := by have := hW.2; omega
    have hah2 : zcs 1 i part f = ah := by unfold zcs; rw [← hn, ← hsp, ← hj, hah]
    obtain ⟨o, ho⟩ : ∃ o, o = zkm 0 1 lane i L part (fs.set lane f) w := ⟨_, rfl⟩
    have hol : o.length = 128 := by rw [ho]; exact zid hn (by omega) hsl h3 (by rw [← hN]; exact zag hfn hfk)
    have hoth : ∀ M rest, othL 0 1 lane i w (M :: some es :: some [.arr N .u64 f] :: some [.arr N1 .u64 g1] :: some [.arr N2 .u64 g2] :: some [.arr N3 .u64 g3] :: rest) t L part L es = some (.one (.arr 128 .u64 o) (M :: some es :: some [.arr N .u64 f] :: some [.arr N1 .u64 g1] :: some [.arr N2 .u64 g2] :: some [.arr N3 .u64 g3] :: rest)) := by
      intro M rest
      rw [ho]
      exact zn0 (pass := 0) (slice := 1) (hall2 M rest) (by omega) (by omega) h3 hi h5 hL h7 (by omega) hsl hw2
    have hpl : (Ys ah o).length = 128 := by rw [zao, hahl]
    have hpt : List.take 128 (Ys ah o) = Ys ah o := List.take_of_length_le (by omega)
    have hat : List.take 128 ah = ah := List.take_of_length_le (by omega)
    have hp : zdf 0 1 lane i t L part fs f = Ys ah o := by
      unfold zdf stepW
      rw [if_pos (by omega), hah2, ← hzp, hw, Int.toNat_natCast, ho]
    have hst : za3 0 1 lane i t L part fs f = List.take ((sp + i) * 128) f ++ Ys ah o ++ List.drop ((sp + i) * 128 + 128) f := by
      unfold za3 putAt; rw [if_neg (by omega), hp, ← hsp]
    rw [hst]
    have hadr : adrL 0 1 lane i t L part = adrL 0 1 lane 0 t L part := by unfold adrL adrZ; rw [Nat.div_eq_of_lt (by omega)]
    obtain hi0 | hi0 : ((i : Int) == 0) = true ∨ ((i : Int) == 0) = false := by cases ((i : Int) == 0) <;> simp
    all_goals (
      simp only [Jt, Qk, Q5, Nat.reduceBEq, reduceIte, Nat.reduceEqDiff, reduceCtorEq, ne_eq, if_true, if_false, exA, exA, tabs, exB, exD, Zl, Zp, Ze, Zi, Zn, AV.isAggV, AV.parts, AV.one, AV.solid, Zf, Zb, Zj, Zc, Zk, Zh, Zg, bndA, lenA, Zd, rowOf, Za, intsOf, Zo, Nat.reduceAdd, Nat.reduceSub, Nat.reduceMul, Nat.reduceLeDiff, Nat.reduceLT, Nat.reduceGT, Int.reduceToNat, Int.reduceLE, Int.reduceLT, Int.reduceEq, Int.reduceNe, Int.reduceAdd, Int.reduceSub, Int.reduceMul, Int.reduceNeg, ite_true, ite_false, dite_true, xc10, xc11, xc12, xc13, xc14, xc15, xc16, xc17, xc20, xc21, xc22, xc23, xc24, xc25, xc26, zbo, Zm, hr, wsp, hall2, hlt, wh, wl, wl1, wm, wj, hn0, wi, hi0, z1r, Int.toNat_natCast]
      repeat (with_reducible refine And.intro (by first | omega | assumption) ?_)
      (rw [show List.take 128 (List.drop (j * 128) f) = Yx f j from rfl, hah])
      (try simp only [hadr, ← hzp, hzt, hzl, hw, true_and]); (repeat (with_reducible refine And.intro (by first | omega | assumption) ?_))
      refine zir (zbl 6) (.first 0 (.first 1 (.first 2 (.first 3 (.fork 4 (.fork 5 (.fork 6 (.fork 7 .done .stop) .stop) (.fork 6 (.fork 5 (.fork 7 .done .stop) .stop) .stop)) (.fork 6 (.fork 4 (.fork 5 (.fork 7 .done .stop) .stop) .stop) .stop))))))
        ⟨envL [(0, .ptr 0 0 0), (3, .ptr 6 0 0), (4, .sl 2 0 128 0 n n), (5, .v (.bool true)), (6, .ptr 7 0 0), (7, .v (.int .i64 ((sp + i : Nat)))), (10, .ptr 9 0 0)],
        [some [.v (.int .i64 t), .v (.int .i64 m), .v (.int .i64 L), .sl 1 0 1 0 L c, .v (.int .i64 part)], some es, some [.arr N .u64 f], some [.arr N1 .u64 g1], some [.arr N2 .u64 g2], some [.arr N3 .u64 g3],
         some [.v (.int .i64 0), .v (.int .i64 1), .v (.int .i64 lane), .v (.int .i64 i)], some [.arr 128 .u64 zp], some [.arr 128 .u64 ah], some [.arr 128 .u64 (Ys ah o)]]⟩ (by kernel_rfl) ?_ ?_
      · repeat (first | simp only [Jt, Qk, Q5, Nat.reduceBEq, reduceIte, Nat.reduceEqDiff, reduceCtorEq, ne_eq, if_true, if_false, exA, exA, tabs, exB, exD, Zl, Zp, Ze, Zi, Zn, AV.isAggV, AV.parts, AV.one, AV.solid, Zf, Zb, Zj, Zc, Zk, Zh, Zg, bndA, lenA, Zd, rowOf, Za, intsOf, Zo, Nat.reduceAdd, Nat.reduceSub, Nat.reduceMul, Nat.reduceLeDiff, Nat.reduceLT, Nat.reduceGT, Int.reduceToNat, Int.reduceLE, Int.reduceLT, Int.reduceEq, Int.reduceNe, Int.reduceAdd, Int.reduceSub, Int.reduceMul, Int.reduceNeg, ite_true, ite_false, dite_true, xc10, xc11, xc12, xc13, xc14, xc15, xc16, xc17, xc20, xc21, xc22, xc23, xc24, xc25, xc26, zbo, Zm, hr, hoth, hat, hahl, hol, hpl, hpt] | simp (maxSteps := 1000000) (disch := omega) only [exE, Int.toNat_natCast, Int.reduceToNat])
        repeat' (first | exact trivial | rfl | refine And.intro ?_ ?_)
        all_goals (refine Z1 ?_ ?_; (focus (first | with_reducible rfl | (simp only [] <;> with_reducible rfl))); simp only [exF, Nat.reduceEqDiff, if_true, if_false, reduceIte, Option.some.injEq, reduceCtorEq, Int.cast_ofNat_Int])
      · repeat (first | simp only [Jt, Qk, Q5, Nat.reduceBEq, reduceIte, Nat.reduceEqDiff, reduceCtorEq, ne_eq, if_true, if_false, exA, exA, tabs, exB, exD, Zl, Zp, Ze, Zi, Zn, AV.isAggV, AV.parts, AV.one, AV.solid, Zf, Zb, Zj, Zc, Zk, Zh, Zg, bndA, lenA, Zd, rowOf, Za, intsOf, Zo, Nat.reduceAdd, Nat.reduceSub, Nat.reduceMul, Nat.reduceLeDiff, Nat.reduceLT, Nat.reduceGT, Int.reduceToNat, Int.reduceLE, Int.reduceLT, Int.reduceEq, Int.reduceNe, Int.reduceAdd, Int.reduceSub, Int.reduceMul, Int.reduceNeg, ite_true, ite_false, dite_true, xc10, xc11, xc12, xc13, xc14, xc15, xc16, xc17, xc20, xc21, xc22, xc23, xc24, xc25, xc26, zbo, Zm, hr, hN1, and_false, hpt] | simp (maxSteps := 1000000) (disch := omega) only [exE, Int.toNat_natCast, Int.reduceToNat])
        repeat (with_reducible refine And.intro (by first | omega | assumption) ?_)
        (refine Z2 [0, 1, 2, 3, 4, 5, 6, 7] (by decide) (by simp) (by rfl) ?_ ?_; (focus (first | with_reducible rfl | (simp only [List.map_cons, List.map_nil, List.cons_append, List.nil_append, List.getElem?_cons_zero, List.getElem?_cons_succ, renB, renL, Option.map_some, Option.map_none, AV.ren, Z4, List.getD_cons_zero, List.getD_cons_succ, hren] <;> with_reducible rfl))); simp only [exF, List.map_cons, List.map_nil, List.length_cons, List.length_nil, Nat.reduceAdd, AV.ren, renL, Z4, Nat.reduceEqDiff, if_true, if_false, reduceIte, Option.some.injEq, reduceCtorEq, Int.cast_ofNat_Int, hren]))
  · repeat (first | simp only [Jt, Qk, Q5, Nat.reduceBEq, reduceIte, Nat.reduceEqDiff, reduceCtorEq, ne_eq, if_true, if_false, exA, exA, tabs, exB, exD, Zl, Zp, Ze, Zi, Zn, AV.isAggV, AV.parts, AV.one, AV.solid, Zf, Zb, Zj, Zc, Zk, Zh, Zg, bndA, lenA, Zd, rowOf, Za, intsOf, Zo, Nat.reduceAdd, Nat.reduceSub, Nat.reduceMul, Nat.reduceLeDiff, Nat.reduceLT, Nat.reduceGT, Int.reduceToNat, Int.reduceLE, Int.reduceLT, Int.reduceEq, Int.reduceNe, Int.reduceAdd, Int.reduceSub, Int.reduceMul, Int.reduceNeg, ite_true, ite_false, dite_true, xc10, xc11, xc12, xc13, xc14, xc15, xc16, xc17, xc20, xc21, xc22, xc23, xc24, xc25, xc26, zbo, Zm, hr] | simp (maxSteps := 1000000) (disch := omega) only [exE, Int.toNat_natCast, Int.reduceToNat])
    exact ⟨_, _, rfl⟩
theorem z8p (lane t L part m c n N N1 N2 N3 : Nat) (hn : n = 4 * part) (hN : N = n * 128) (es : List AV) (fs : List (List Int)) (f0 g1 g2 g3 zp : List Int) (hzp : zp = adrL 0 1 lane 0 t L part) (h3 : lane < L) (hL : 1 ≤ L ∧ L ≤ 4) (h5 : t ≤ 8) (h7 : 2 ≤ part ∧ part ≤ 64)
    (hf0 : f0.length = N) (hw0 : Wds f0) (hfl : fs.length = L) (hfn : ∀ g ∈ fs, g.length = N)
    (hcell : Y2 es lane = some (.sl 2 0 128 0 n n))
    (hren : ∀ l len, renL (Z4 (0 :: 1 :: 2 :: 3 :: 4 :: 5 :: l) len) es = es)
    (hall : ∀ M f rest, f.length = N → allOf (Jr (M :: some es :: some [.arr N .u64 f] :: some [.arr N1 .u64 g1] :: some [.arr N2 .u64 g2] :: some [.arr N3 .u64 g3] :: rest) (4 * part)) es = some (fs.set lane f)) :
    Zs Try.prog 63 [.ptr 0 0 0, .agg [.v (.int .i64 0), .v (.int .i64 1), .v (.int .i64 lane), .v (.int .i64 0)]]
      [some [.v (.int .i64 t), .v (.int .i64 m), .v (.int .i64 L), .sl 1 0 1 0 L c, .v (.int .i64 part)], some es, some [.arr N .u64 f0], some [.arr N1 .u64 g1], some [.arr N2 .u64 g2], some [.arr N3 .u64 g3]]
      fun v h' => v = .tup [] ∧ h' = [some [.v (.int .i64 t), .v (.int .i64 m), .v (.int .i64 L), .sl 1 0 1 0 L c, .v (.int .i64 part)], some es, some [.arr N .u64 (Yr 0 1 lane t L part 0 fs f0 part)], some [.arr N1 .u64 g1], some [.arr N2 .u64 g2], some [.arr N3 .u64 g3]] := by
  refine Zs.weak (C := c26o 6) rfl (κ := fun v h' => v = .tup [] ∧ ∃ x y, h' = [some [.v (.int .i64 t), .v (.int .i64 m), .v (.int .i64 L), .sl 1 0 1 0 L c, .v (.int .i64 part)], some es, some [.arr N .u64 (Yr 0 1 lane t L part 0 fs f0 part)], some [.arr N1 .u64 g1], some [.arr N2 .u64 g2], some [.arr N3 .u64 g3], x, y]) ?_ ?_
  · exact z4x lane t L part m c n N N1 N2 N3 hn hN es fs f0 g1 g2 g3 zp hzp h3 hL h5 h7 hf0 hw0 hfl hfn hcell hren hall
  · rintro _ _ ⟨rfl, x, y, rfl⟩
    exact ⟨_, _, Z2 [0, 1, 2, 3, 4, 5] (by decide) (by simp) (by rfl) (by simp only [List.map_cons, List.map_nil, List.getElem?_cons_zero, List.getElem?_cons_succ, renB, Option.map_some, renL, AV.ren, hren, Z4, List.getD_cons_zero, List.getD_cons_succ]) ⟨rfl, trivial⟩, rfl, rfl⟩
end Go.Proofs.Ytfnfmbikooeiaaa
namespace Go.Proofs.Ytfnfmbikooeiaaa
open Go.Ax
theorem z4w (lane t L part m c n N N1 N2 N3 : Nat) (hn : n = 4 * part) (hN : N = n * 128) (es : List AV) (fs : List (List Int)) (f0 g1 g2 g3 zp : List Int) (hzp : zp = adrL 0 0 lane 0 t L part) (h3 : lane < L) (hL : 1 ≤ L ∧ L ≤ 4) (h5 : t ≤ 8) (h7 : 2 ≤ part ∧ part ≤ 64)
    (hf0 : f0.length = N) (hw0 : Wds f0) (hfl : fs.length = L) (hfn : ∀ g ∈ fs, g.length = N)
    (hcell : Y2 es lane = some (.sl 2 0 128 0 n n))
    (hren : ∀ l len, renL (Z4 (0 :: 1 :: 2 :: 3 :: 4 :: 5 :: l) len) es = es)
    (hall : ∀ M f rest, f.length = N → allOf (Jr (M :: some es :: some [.arr N .u64 f] :: some [.arr N1 .u64 g1] :: some [.arr N2 .u64 g2] :: some [.arr N3 .u64 g3] :: rest) (4 * part)) es = some (fs.set lane f)) :
    Zs Try.prog 63 [.ptr 0 0 0, .agg [.v (.int .i64 0), .v (.int .i64 0), .v (.int .i64 lane), .v (.int .i64 0)]]
      [some [.v (.int .i64 t), .v (.int .i64 m), .v (.int .i64 L), .sl 1 0 1 0 L c, .v (.int .i64 part)], some es, some [.arr N .u64 f0], some [.arr N1 .u64 g1], some [.arr N2 .u64 g2], some [.arr N3 .u64 g3]]
      fun v h' => v = .tup [] ∧ ∃ x y, h' = [some [.v (.int .i64 t), .v (.int .i64 m), .v (.int .i64 L), .sl 1 0 1 0 L c, .v (.int .i64 part)], some es, some [.arr N .u64 (Yr 0 0 lane t L part 2 fs f0 (part - 2))], some [.arr N1 .u64 g1], some [.arr N2 .u64 g2], some [.arr N3 .u64 g3], x, y] := by
  obtain ⟨sp, hsp⟩ : ∃ sp, sp = 0 * part := ⟨_, rfl⟩
  have hsp1 : sp + part ≤ n := by omega
  have wsp : IntKind.i64.wrap ((0 : Int) * (part : Int)) = (sp : Int) := by rw [Zz _ (by omega)]; omega
  refine Zq (zbl 6) Try.func63 rfl ⟨by kernel_rfl, by show 2 ≤ _; decide, by kernel_rfl, by kernel_rfl⟩ rfl ?_; have hr : Try.f63.results.toList = [] := rfl
  repeat (first | simp only [Jt, Qk, Q5, Nat.reduceBEq, reduceIte, Nat.reduceEqDiff, reduceCtorEq, ne_eq, if_true, if_false, exA, exA, tabs, exB, exD, Zl, Zp, Ze, Zi, Zn, AV.isAggV, AV.parts, AV.one, AV.solid, Zf, Zb, Zj, Zc, Zk, Zh, Zg, bndA, lenA, Zd, rowOf, Za, intsOf, Zo, Nat.reduceAdd, Nat.reduceSub, Nat.reduceMul, Nat.reduceLeDiff, Nat.reduceLT, Nat.reduceGT, Int.reduceToNat, Int.reduceLE, Int.reduceLT, Int.reduceEq, Int.reduceNe, Int.reduceAdd, Int.reduceSub, Int.reduceMul, Int.reduceNeg, ite_true, ite_false, dite_true, xc10, xc11, xc12, xc13, xc14, xc15, xc16, xc17, xc20, xc21, xc22, xc23, xc24, xc25, xc26, zbo, Zm, hr, hcell] | simp (maxSteps := 1000000) (disch := omega) only [exE, Int.toNat_natCast, Int.reduceToNat])
  rw [show adrL 0 0 lane 2 t L part = adrL 0 0 lane 0 t L part from rfl]
  have hzl : zp.length = 128 := by rw [hzp]; unfold adrL; rw [zao]; rfl
  have hzw : Wds zp := by rw [hzp]; exact zpl (by decide)
  have hzt : List.take 128 zp = zp := List.take_of_length_le (by omega)
  rw [← hzp]
  repeat (with_reducible refine And.intro (by first | omega | assumption) ?_)
  try simp only [hzt, hzl]
  repeat (with_reducible refine And.intro (by first | omega | assumption) ?_)
  refine Z3 (zbl 6) (fun k => ⟨envL [(0, .ptr 0 0 0), (3, .ptr 6 0 0), (4, .sl 2 0 128 0 n n), (5, .v (.bool true)), (6, .ptr 7 0 0)],
    [some [.v (.int .i64 t), .v (.int .i64 m), .v (.int .i64 L), .sl 1 0 1 0 L c, .v (.int .i64 part)], some es, some [.arr N .u64 (Yr 0 0 lane t L part 2 fs f0 k)], some [.arr N1 .u64 g1], some [.arr N2 .u64 g2], some [.arr N3 .u64 g3],
     some [.v (.int .i64 0), .v (.int .i64 0), .v (.int .i64 lane), .v (.int .i64 ((2 + k : Nat)))], some [.arr 128 .u64 zp]]⟩) (part - 2) (by kernel_rfl) ?_ ?_ ?_
  · (refine Z1 ?_ ?_; (focus (first | with_reducible rfl | (simp only [Yr, Int.natCast_zero, Nat.add_zero, Int.cast_ofNat_Int] <;> with_reducible rfl))); simp only [exF, Nat.reduceEqDiff, if_true, if_false, reduceIte, Option.some.injEq, reduceCtorEq, Int.cast_ofNat_Int, Yr, Int.natCast_zero, Nat.add_zero, Int.cast_ofNat_Int])
  · intro i hi
    have hfk := zb3 0 0 lane t L part 2 fs (by rw [hf0, hN, hn]) (by decide) i (by omega)
    have hwk := zfs 0 0 lane t L part 2 fs (by rw [hf0, hN, hn]) hw0 (by decide) (by omega) i (by omega)
    rw [← hn, ← hN] at hfk
    have hS : Yr 0 0 lane t L part 2 fs f0 (i + 1) = za3 0 0 lane (2 + i) t L part fs (Yr 0 0 lane t L part 2 fs f0 i) := rfl
    rw [hS]
    obtain ⟨f, hff⟩ : ∃ f, Yr 0 0 lane t L part 2 fs f0 i = f := ⟨_, rfl⟩
    rw [hff] at hfk hwk ⊢
    clear hff hS
    rw [show 2 + (i + 1) = 2 + i + 1 from rfl]
    obtain ⟨i, hii⟩ : ∃ q, q = 2 + i := ⟨_, rfl⟩
    rw [← hii]
    have hi : i < part := by omega
    have hi2 : 2 ≤ i := by omega
    have hall2 := fun M rest => hall M f rest hfk
    obtain ⟨j, hj⟩ : ∃ j, j = (sp + i + n - 1) % n := ⟨_, rfl⟩
    have hjl : j < n := by rw [hj]; exact Nat.mod_lt _ (by omega)
    have hlt : ((i : Int) < (part : Int)) = True := by simp; omega
    have wh : IntKind.i64.wrap ((sp : Int) + (i : Int)) = ((sp + i : Nat) : Int) := by rw [Zz _ (by omega)]; omega
    have wl : IntKind.i64.wrap (((sp + i : Nat) : Int) + ((n : Nat) : Int)) = ((sp + i + n : Nat) : Int) := by rw [Zz _ (by omega)]; omega
    have wl1 : IntKind.i64.wrap (((sp + i + n : Nat) : Int) - 1) = ((sp + i + n - 1 : Nat) : Int) := by rw [Zz _ (by omega)]; omega
    have wm : ((sp + i + n - 1 : Nat) : Int).tmod ((n : Nat) : Int) = (j : Int) := by rw [← Int.ofNat_tmod, hj]
    have wj : ((j : Int)).toNat = j := Int.toNat_natCast j
    have hn0 : (((n : Nat) : Int) = 0) = False := by simp; omega
    have hsl : (fs.set lane f).length = L := by rw [List.length_set]; exact hfl
    have hahl : (Yx f j).length = 128 := zap (n := n) (by rw [hfk, hN]) hjl
    have hN1 : (N = 128) = False := by simp; omega
    have hW := hzw i
    have wi : ((i : Int)).tmod 128 = (i : Int) := by rw [Int.tmod_eq_of_lt (by omega) (by omega)]
    obtain ⟨ah, hah⟩ : ∃ ah, Yx f j = ah := ⟨_, rfl⟩
    rw [hah] at hahl
    obtain ⟨w, hw⟩ := Int.eq_ofNat_of_zero_le hW.1
    have hw2 : w < 18446744073709551616 := by have := hW.2; omega
    have hah2 : zcs 0 i part f = ah := by unfold zcs; rw [← hn, ← hsp, ← hj, hah]
    obtain ⟨o, ho⟩ : ∃ o, o = zkm 0 0 lane i L part (fs.set lane f) w := ⟨_, rfl⟩
    have hol : o.length = 128 := by rw [ho]; exact zid hn (by omega) hsl h3 (by rw [← hN]; exact zag hfn hfk)
    have hoth : ∀ M rest, othL 0 0 lane i w (M :: some es :: some [.arr N .u64 f] :: some [.arr N1 .u64 g1] :: some [.arr N2 .u64 g2] :: some [.arr N3 .u64 g3] :: rest) t L part L es = some (.one (.arr 128 .u64 o) (M :: some es :: some [.arr N .u64 f] :: some [.arr N1 .u64 g1] :: some [.arr N2 .u64 g2] :: some [.arr N3 .u64 g3] :: rest)) := by
      intro M rest
      rw [ho]
      exact zn0 (pass := 0) (slice := 0) (hall2 M rest) (by omega) (by omega) h3 hi h5 hL h7 (by omega) hsl hw2
    have hpl : (Ys ah o).length = 128 := by rw [zao, hahl]
    have hpt : List.take 128 (Ys ah o) = Ys ah o := List.take_of_length_le (by omega)
    have hat : List.take 128 ah = ah := List.take_of_length_le (by omega)
    have hp : zdf 0 0 lane i t L part fs f = Ys ah o := by
      unfold zdf stepW
      rw [if_pos (by omega), hah2, ← hzp, hw, Int.toNat_natCast, ho]
    have hst : za3 0 0 lane i t L part fs f = List.take ((sp + i) * 128) f ++ Ys ah o ++ List.drop ((sp + i) * 128 + 128) f := by
      unfold za3 putAt; rw [if_neg (by omega), hp, ← hsp]
    rw [hst]
    have hadr : adrL 0 0 lane i t L part = adrL 0 0 lane 0 t L part := by unfold adrL adrZ; rw [Nat.div_eq_of_lt (by omega)]
    have hi0 : ((i : Int) == 0) = false := by simp; omega
    simp only [Jt, Qk, Q5, Nat.reduceBEq, reduceIte, Nat.reduceEqDiff, reduceCtorEq, ne_eq, if_true, if_false, exA, exA, tabs, exB, exD, Zl, Zp, Ze, Zi, Zn, AV.isAggV, AV.parts, AV.one, AV.solid, Zf, Zb, Zj, Zc, Zk, Zh, Zg, bndA, lenA, Zd, rowOf, Za, intsOf, Zo, Nat.reduceAdd, Nat.reduceSub, Nat.reduceMul, Nat.reduceLeDiff, Nat.reduceLT, Nat.reduceGT, Int.reduceToNat, Int.reduceLE, Int.reduceLT, Int.reduceEq, Int.reduceNe, Int.reduceAdd, Int.reduceSub, Int.reduceMul, Int.reduceNeg, ite_true, ite_false, dite_true, xc10, xc11, xc12, xc13, xc14, xc15, xc16, xc17, xc20, xc21, xc22, xc23, xc24, xc25, xc26, zbo, Zm, hr, wsp, hall2, hlt, wh, wl, wl1, wm, wj, hn0, wi, hi0, z1r, Int.toNat_natCast]
    repeat (with_reducible refine And.intro (by first | omega | assumption) ?_)
    (rw [show List.take 128 (List.drop (j * 128) f) = Yx f j from rfl, hah])
    (try simp only [hadr, ← hzp, hzt, hzl, hw, true_and]); (repeat (with_reducible refine And.intro (by first | omega | assumption) ?_))
    refine zir (zbl 6) (.first 0 (.first 1 (.first 2 (.first 3 (.fork 4 (.fork 5 (.fork 6 (.fork 7 .done .stop) .stop) (.fork 6 (.fork 5 (.fork 7 .done .stop) .stop) .stop)) (.fork 6 (.fork 4 (.fork 5 (.fork 7 .done .stop) .stop) .stop) .stop))))))
      ⟨envL [(0, .ptr 0 0 0), (3, .ptr 6 0 0), (4, .sl 2 0 128 0 n n), (5, .v (.bool true)), (6, .ptr 7 0 0), (7, .v (.int .i64 ((sp + i : Nat)))), (10, .ptr 9 0 0)],
      [some [.v (.int .i64 t), .v (.int .i64 m), .v (.int .i64 L), .sl 1 0 1 0 L c, .v (.int .i64 part)], some es, some [.arr N .u64 f], some [.arr N1 .u64 g1], some [.arr N2 .u64 g2], some [.arr N3 .u64 g3],
       some [.v (.int .i64 0), .v (.int .i64 0), .v (.int .i64 lane), .v (.int .i64 i)], some [.arr 128 .u64 zp], some [.arr 128 .u64 ah], some [.arr 128 .u64 (Ys ah o)]]⟩ (by kernel_rfl) ?_ ?_
    · repeat (first | simp only [Jt, Qk, Q5, Nat.reduceBEq, reduceIte, Nat.reduceEqDiff, reduceCtorEq, ne_eq, if_true, if_false, exA, exA, tabs, exB, exD, Zl, Zp, Ze, Zi, Zn, AV.isAggV, AV.parts, AV.one, AV.solid, Zf, Zb, Zj, Zc, Zk, Zh, Zg, bndA, lenA, Zd, rowOf, Za, intsOf, Zo, Nat.reduceAdd, Nat.reduceSub, Nat.reduceMul, Nat.reduceLeDiff, Nat.reduceLT, Nat.reduceGT, Int.reduceToNat, Int.reduceLE, Int.reduceLT, Int.reduceEq, Int.reduceNe, Int.reduceAdd, Int.reduceSub, Int.reduceMul, Int.reduceNeg, ite_true, ite_false, dite_true, xc10, xc11, xc12, xc13, xc14, xc15, xc16, xc17, xc20, xc21, xc22, xc23, xc24, xc25, xc26, zbo, Zm, hr, hoth, hat, hahl, hol, hpl, hpt] | simp (maxSteps := 1000000) (disch := omega) only [exE, Int.toNat_natCast, Int.reduceToNat])
      repeat' (first | exact trivial | rfl | refine And.intro ?_ ?_)
      all_goals (refine Z1 ?_ ?_; (focus (first | with_reducible rfl | (simp only [] <;> with_reducible rfl))); simp only [exF, Nat.reduceEqDiff, if_true, if_false, reduceIte, Option.some.injEq, reduceCtorEq, Int.cast_ofNat_Int])
    · repeat (first | simp only [Jt, Qk, Q5, Nat.reduceBEq, reduceIte, Nat.reduceEqDiff, reduceCtorEq, ne_eq, if_true, if_false, exA, exA, tabs, exB, exD, Zl, Zp, Ze, Zi, Zn, AV.isAggV, AV.parts, AV.one, AV.solid, Zf, Zb, Zj, Zc, Zk, Zh, Zg, bndA, lenA, Zd, rowOf, Za, intsOf, Zo, Nat.reduceAdd, Nat.reduceSub, Nat.reduceMul, Nat.reduceLeDiff, Nat.reduceLT, Nat.reduceGT, Int.reduceToNat, Int.reduceLE, Int.reduceLT, Int.reduceEq, Int.reduceNe, Int.reduceAdd, Int.reduceSub, Int.reduceMul, Int.reduceNeg, ite_true, ite_false, dite_true, xc10, xc11, xc12, xc13, xc14, xc15, xc16, xc17, xc20, xc21, xc22, xc23, xc24, xc25, xc26, zbo, Zm, hr, hN1, and_false, hpt] | simp (maxSteps := 1000000) (disch := omega) only [exE, Int.toNat_natCast, Int.reduceToNat])
      repeat (with_reducible refine And.intro (by first | omega | assumption) ?_)
      (refine Z2 [0, 1, 2, 3, 4, 5, 6, 7] (by decide) (by simp) (by rfl) ?_ ?_; (focus (first | with_reducible rfl | (simp only [List.map_cons, List.map_nil, List.cons_append, List.nil_append, List.getElem?_cons_zero, List.getElem?_cons_succ, renB, renL, Option.map_some, Option.map_none, AV.ren, Z4, List.getD_cons_zero, List.getD_cons_succ, hren] <;> with_reducible rfl))); simp only [exF, List.map_cons, List.map_nil, List.length_cons, List.length_nil, Nat.reduceAdd, AV.ren, renL, Z4, Nat.reduceEqDiff, if_true, if_false, reduceIte, Option.some.injEq, reduceCtorEq, Int.cast_ofNat_Int, hren])
  · have hlast : ((2 + (part - 2) : Nat) : Int) = (part : Int) := by omega
    repeat (first | simp only [Jt, Qk, Q5, Nat.reduceBEq, reduceIte, Nat.reduceEqDiff, reduceCtorEq, ne_eq, if_true, if_false, exA, exA, tabs, exB, exD, Zl, Zp, Ze, Zi, Zn, AV.isAggV, AV.parts, AV.one, AV.solid, Zf, Zb, Zj, Zc, Zk, Zh, Zg, bndA, lenA, Zd, rowOf, Za, intsOf, Zo, Nat.reduceAdd, Nat.reduceSub, Nat.reduceMul, Nat.reduceLeDiff, Nat.reduceLT, Nat.reduceGT, Int.reduceToNat, Int.reduceLE, Int.reduceLT, Int.reduceEq, Int.reduceNe, Int.reduceAdd, Int.reduceSub, Int.reduceMul, Int.reduceNeg, ite_true, ite_false, dite_true, xc10, xc11, xc12, xc13, xc14, xc15, xc16, xc17, xc20, xc21, xc22, xc23, xc24, xc25, xc26, zbo, Zm, hr, hlast] | simp (maxSteps := 1000000) (disch := omega) only [exE, Int.toNat_natCast, Int.reduceToNat])
    exact ⟨_, _, rfl⟩
theorem z8o (lane t L part m c n N N1 N2 N3 : Nat) (hn : n = 4 * part) (hN : N = n * 128) (es : List AV) (fs : List (List Int)) (f0 g1 g2 g3 zp : List Int) (hzp : zp = adrL 0 0 lane 0 t L part) (h3 : lane < L) (hL : 1 ≤ L ∧ L ≤ 4) (h5 : t ≤ 8) (h7 : 2 ≤ part ∧ part ≤ 64)
    (hf0 : f0.length = N) (hw0 : Wds f0) (hfl : fs.length = L) (hfn : ∀ g ∈ fs, g.length = N)
    (hcell : Y2 es lane = some (.sl 2 0 128 0 n n))
    (hren : ∀ l len, renL (Z4 (0 :: 1 :: 2 :: 3 :: 4 :: 5 :: l) len) es = es)
    (hall : ∀ M f rest, f.length = N → allOf (Jr (M :: some es :: some [.arr N .u64 f] :: some [.arr N1 .u64 g1] :: some [.arr N2 .u64 g2] :: some [.arr N3 .u64 g3] :: rest) (4 * part)) es = some (fs.set lane f)) :
    Zs Try.prog 63 [.ptr 0 0 0, .agg [.v (.int .i64 0), .v (.int .i64 0), .v (.int .i64 lane), .v (.int .i64 0)]]
      [some [.v (.int .i64 t), .v (.int .i64 m), .v (.int .i64 L), .sl 1 0 1 0 L c, .v (.int .i64 part)], some es, some [.arr N .u64 f0], some [.arr N1 .u64 g1], some [.arr N2 .u64 g2], some [.arr N3 .u64 g3]]
      fun v h' => v = .tup [] ∧ h' = [some [.v (.int .i64 t), .v (.int .i64 m), .v (.int .i64 L), .sl 1 0 1 0 L c, .v (.int .i64 part)], some es, some [.arr N .u64 (Yr 0 0 lane t L part 2 fs f0 (part - 2))], some [.arr N1 .u64 g1], some [.arr N2 .u64 g2], some [.arr N3 .u64 g3]] := by
  refine Zs.weak (C := c26o 6) rfl (κ := fun v h' => v = .tup [] ∧ ∃ x y, h' = [some [.v (.int .i64 t), .v (.int .i64 m), .v (.int .i64 L), .sl 1 0 1 0 L c, .v (.int .i64 part)], some es, some [.arr N .u64 (Yr 0 0 lane t L part 2 fs f0 (part - 2))], some [.arr N1 .u64 g1], some [.arr N2 .u64 g2], some [.arr N3 .u64 g3], x, y]) ?_ ?_
  · exact z4w lane t L part m c n N N1 N2 N3 hn hN es fs f0 g1 g2 g3 zp hzp h3 hL h5 h7 hf0 hw0 hfl hfn hcell hren hall
  · rintro _ _ ⟨rfl, x, y, rfl⟩
    exact ⟨_, _, Z2 [0, 1, 2, 3, 4, 5] (by decide) (by simp) (by rfl) (by simp only [List.map_cons, List.map_nil, List.getElem?_cons_zero, List.getElem?_cons_succ, renB, Option.map_some, renL, AV.ren, hren, Z4, List.getD_cons_zero, List.getD_cons_succ]) ⟨rfl, trivial⟩, rfl, rfl⟩
end Go.Proofs.Ytfnfmbikooeiaaa
namespace Go.Proofs.Ytfnfmbikooeiaaa
open Go.Ax
def loS (pass slice : Nat) : Nat := if pass = 0 ∧ slice = 0 then 2 else 0
def ya9 (pass slice lane t L part : Nat) (fs : List (List Int)) : List Int := Yr pass slice lane t L part (loS pass slice) fs (fs.getD lane []) (part - loS pass slice)
def zhe (pass slice lane t L part : Nat) (fs : List (List Int)) : List (List Int) := fs.set lane (ya9 pass slice lane t L part fs)
theorem z8n (pass slice lane t L part m c n N N1 N2 N3 : Nat) (hn : n = 4 * part) (hN : N = n * 128) (es : List AV) (fs : List (List Int)) (f0 g1 g2 g3 : List Int) (h1 : pass ≤ 7) (h2 : slice < 4) (h3 : lane < L) (hL : 1 ≤ L ∧ L ≤ 4) (h5 : t ≤ 8) (h7 : 2 ≤ part ∧ part ≤ 64)
    (hf0 : f0.length = N) (hw0 : Wds f0) (hfl : fs.length = L) (hfn : ∀ g ∈ fs, g.length = N)
    (hcell : Y2 es lane = some (.sl 2 0 128 0 n n))
    (hren : ∀ l len, renL (Z4 (0 :: 1 :: 2 :: 3 :: 4 :: 5 :: l) len) es = es)
    (hall : ∀ M f rest, f.length = N → allOf (Jr (M :: some es :: some [.arr N .u64 f] :: some [.arr N1 .u64 g1] :: some [.arr N2 .u64 g2] :: some [.arr N3 .u64 g3] :: rest) (4 * part)) es = some (fs.set lane f)) :
    Zs Try.prog 63 [.ptr 0 0 0, .agg [.v (.int .i64 pass), .v (.int .i64 slice), .v (.int .i64 lane), .v (.int .i64 0)]]
      [some [.v (.int .i64 t), .v (.int .i64 m), .v (.int .i64 L), .sl 1 0 1 0 L c, .v (.int .i64 part)], some es, some [.arr N .u64 f0], some [.arr N1 .u64 g1], some [.arr N2 .u64 g2], some [.arr N3 .u64 g3]]
      fun v h' => v = .tup [] ∧ h' = [some [.v (.int .i64 t), .v (.int .i64 m), .v (.int .i64 L), .sl 1 0 1 0 L c, .v (.int .i64 part)], some es, some [.arr N .u64 (Yr pass slice lane t L part (loS pass slice) fs f0 (part - loS pass slice))], some [.arr N1 .u64 g1], some [.arr N2 .u64 g2], some [.arr N3 .u64 g3]] := by
  rcases Nat.eq_zero_or_pos pass with h0 | h0
  · subst h0
    rcases (by omega : slice = 0 ∨ slice = 1 ∨ 2 ≤ slice) with hs | hs | hs
    · subst hs
      exact z8o lane t L part m c n N N1 N2 N3 hn hN es fs f0 g1 g2 g3 _ rfl h3 hL h5 h7 hf0 hw0 hfl hfn hcell hren hall
    · subst hs
      exact z8p lane t L part m c n N N1 N2 N3 hn hN es fs f0 g1 g2 g3 _ rfl h3 hL h5 h7 hf0 hw0 hfl hfn hcell hren hall
    · have hlo : loS 0 slice = 0 := by unfold loS; rw [if_neg (by omega)]
      rw [hlo, Nat.sub_zero]
      exact z8q slice lane t L part m c n N N1 N2 N3 hn hN es fs f0 g1 g2 g3 _ rfl h2 hs h3 hL h5 h7 hf0 hw0 hfl hfn hcell hren hall
  · have hlo : loS pass slice = 0 := by unfold loS; rw [if_neg (by omega)]
    rw [hlo, Nat.sub_zero]
    exact z8r pass slice lane t L part m c n N N1 N2 N3 hn hN es fs f0 g1 g2 g3 _ rfl h1 h2 h3 hL h5 h7 hf0 hw0 hfl hfn h0 hcell hren hall
def rowA (q : Nat → Nat) (L n : Nat) : List AV := (List.range L).map fun j => .sl (q j) 0 128 0 n n
theorem zo6 (g : Nat → Nat) (q : Nat → Nat) (n : Nat) : ∀ l : List Nat, renL g (l.map fun j => AV.sl (q j) 0 128 0 n n) = l.map fun j => .sl (g (q j)) 0 128 0 n n
  | [] => rfl
  | a :: l => by simp only [List.map_cons, renL, AV.ren, zo6 g q n l]
theorem zks {g q q' : Nat → Nat} {L n : Nat} (h : ∀ j, j < L → g (q j) = q' j) : renL g (rowA q L n) = rowA q' L n := by
  unfold rowA
  rw [zo6]
  exact List.map_congr_left fun j hj => by rw [h j (List.mem_range.1 hj)]
theorem zmz (q : Nat → Nat) (n : Nat) : ∀ (l : List Nat) (i : Nat), Y2 (l.map fun j => AV.sl (q j) 0 128 0 n n) i = (l[i]?).map fun j => .sl (q j) 0 128 0 n n
  | [], i => by simp [Y2]
  | a :: l, 0 => by simp [Y2, AV.one]
  | a :: l, i + 1 => by
    have := zmz q n l i
    simp only [List.map_cons, List.getElem?_cons_succ, Y2, AV.one, if_true]
    exact this
theorem zry {q : Nat → Nat} {L n i : Nat} (h : i < L) : Y2 (rowA q L n) i = some (.sl (q i) 0 128 0 n n) := by
  unfold rowA
  rw [zmz, List.getElem?_range h]; rfl
theorem zta (F : AV → Option (List Int)) (x : Nat → AV) (y : Nat → List Int) : ∀ l : List Nat, (∀ j ∈ l, F (x j) = some (y j)) → allOf F (l.map x) = some (l.map y)
  | [], _ => rfl
  | a :: l, h => by
    simp only [List.map_cons, allOf]
    rw [h a (by simp), zta F x y l (fun j hj => h j (by simp [hj]))]
    rfl
theorem zyz {fs : List (List Int)} {L : Nat} (h : fs.length = L) : (List.range L).map (fun j => fs.getD j []) = fs := by
  apply List.ext_getElem
  · simp [h]
  · intro j h1 h2
    rw [List.getElem_map, List.getElem_range, List.getD_eq_getElem?_getD, List.getElem?_eq_getElem h2]; rfl
theorem z3k {h : List Blk} {n b N : Nat} {f : List Int} (hr : row h b = some [.arr N .u64 f]) (hN : N = n * 128) (hf : f.length = N) : Jr h n (.sl b 0 128 0 n n) = some f := by
  unfold Jr
  simp only [hr]
  unfold Zu
  rw [if_pos ⟨trivial, hN, by omega⟩]
theorem zkt {h : List Blk} {q : Nat → Nat} {L n N : Nat} {fs : List (List Int)} (hl : fs.length = L) (hN : N = n * 128) (hf : ∀ g ∈ fs, g.length = N) (hr : ∀ j, j < L → row h (q j) = some [.arr N .u64 (fs.getD j [])]) :
    allOf (Jr h n) (rowA q L n) = some fs := by
  unfold rowA
  rw [zta (Jr h n) _ (fun j => fs.getD j [])]
  · rw [zyz hl]
  · intro j hj
    have hj := List.mem_range.1 hj
    refine z3k (hr j hj) hN (hf _ ?_)
    rw [List.getD_eq_getElem?_getD, List.getElem?_eq_getElem (by omega)]; exact List.getElem_mem _
def lb (L N : Nat) (fs : List (List Int)) (j : Nat) : Blk := some [.arr (if j < L then N else 0) .u64 (if j < L then fs.getD j [] else [])]
def memH (t m L c part : Nat) (fs : List (List Int)) : List Blk :=
  [some [.v (.int .i64 t), .v (.int .i64 m), .v (.int .i64 L), .sl 1 0 1 0 L c, .v (.int .i64 part)], some (rowA (fun j => 2 + j) L (4 * part)), lb L (4 * part * 128) fs 0, lb L (4 * part * 128) fs 1, lb L (4 * part * 128) fs 2, lb L (4 * part * 128) fs 3]
def qL (lane j : Nat) : Nat := if j = lane then 2 else if j < lane then 3 + j else 2 + j
theorem z4z (pass slice lane t L part m c : Nat) (fs : List (List Int)) (h1 : pass ≤ 7) (h2 : slice < 4) (h3 : lane < L) (hL : 1 ≤ L ∧ L ≤ 4) (h5 : t ≤ 8) (h7 : 2 ≤ part ∧ part ≤ 64)
    (hfl : fs.length = L) (hfn : ∀ g ∈ fs, g.length = 4 * part * 128) (hfw : ∀ g ∈ fs, Wds g) :
    Zs Try.prog 63 [.ptr 0 0 0, .agg [.v (.int .i64 pass), .v (.int .i64 slice), .v (.int .i64 lane), .v (.int .i64 0)]] (memH t m L c part fs)
      fun v h' => v = .tup [] ∧ h' = memH t m L c part (zhe pass slice lane t L part fs) := by
  obtain ⟨n, hn⟩ : ∃ n, n = 4 * part := ⟨_, rfl⟩
  obtain ⟨N, hN⟩ : ∃ N, N = n * 128 := ⟨_, rfl⟩
  have hmem : fs.getD lane [] ∈ fs := by rw [List.getD_eq_getElem?_getD, List.getElem?_eq_getElem (by omega)]; exact List.getElem_mem _
  have hq : ∀ j, j < L → qL lane j = 2 ∨ qL lane j = 3 ∨ qL lane j = 4 ∨ qL lane j = 5 := by
    intro j hj; unfold qL; split
    · simp
    · split <;> omega
  have hren : ∀ l len, renL (Z4 (0 :: 1 :: 2 :: 3 :: 4 :: 5 :: l) len) (rowA (qL lane) L n) = rowA (qL lane) L n := by
    intro l len
    refine zks fun j hj => ?_
    rcases hq j hj with h | h | h | h <;> rw [h] <;> rfl
  have hcell : Y2 (rowA (qL lane) L n) lane = some (.sl 2 0 128 0 n n) := by rw [zry h3]; unfold qL; rw [if_pos rfl]
  have hg : ∀ f j, j < L → (fs.set lane f).getD j [] = if lane = j then f else fs.getD j [] := by
    intro f j hj
    rw [List.getD_eq_getElem?_getD, List.getElem?_set]
    split
    · rw [if_pos (by omega)]; rfl
    · rw [List.getD_eq_getElem?_getD]
  have key := fun N1 N2 N3 g1 g2 g3 hall => z8n pass slice lane t L part m c n N N1 N2 N3 hn hN (rowA (qL lane) L n) fs (fs.getD lane []) g1 g2 g3 h1 h2 h3 hL h5 h7 (by rw [hfn _ hmem, hN, hn]) (hfw _ hmem) hfl (fun g hg => by rw [hfn g hg, hN, hn]) hcell hren hall
  have hlb : ∀ f j, lb L N (fs.set lane f) j = if lane = j then some [.arr N .u64 f] else lb L N fs j := by
    intro f j
    unfold lb
    by_cases hj : j < L
    · rw [if_pos hj, if_pos hj, hg f j hj]
      split <;> simp [hj]
    · rw [if_neg (by omega : ¬ lane = j)]; simp [hj]
  have hls : lb L N fs lane = some [.arr N .u64 (fs.getD lane [])] := by unfold lb; simp [h3]
  have hc : ∀ j, (∀ f, f.length = N → j < L → lane ≠ j → (fs.set lane f).getD j [] = fs.getD j []) := fun j f _ hj hne => by rw [hg f j hj, if_neg hne]
  have hrow : ∀ π, (∀ j, j < 4 → Yb π 6 (qL lane j) = 2 + j) → renL (Yb π 6) (rowA (qL lane) L n) = rowA (fun j => 2 + j) L n := fun π h => zks fun j hj => h j (by omega)
  have hfn2 : ∀ g ∈ fs, g.length = N := fun g hg => by rw [hfn g hg, hN, hn]
  have hkeep : ya9 pass slice lane t L part fs = Yr pass slice lane t L part (loS pass slice) fs (fs.getD lane []) (part - loS pass slice) := rfl
  unfold memH zhe
  rw [hkeep, ← hn, ← hN, hlb, hlb, hlb, hlb]
  clear hkeep
  obtain ⟨r, hr⟩ : ∃ r, Yr pass slice lane t L part (loS pass slice) fs (fs.getD lane []) (part - loS pass slice) = r := ⟨_, rfl⟩
  rw [hr] at key ⊢
  clear hr
  rcases Nat.lt_or_ge lane 1 with hl | hl
  · obtain rfl : lane = 0 := by omega
    have hw := hrow [0, 1, 2, 3, 4, 5] (by intro j hj; rcases (by omega : j = 0 ∨ j = 1 ∨ j = 2 ∨ j = 3) with rfl | rfl | rfl | rfl <;> rfl)
    have hall : ∀ M f rest, f.length = N → allOf (Jr (M :: some (rowA (qL 0) L n) :: some [.arr N .u64 f] :: lb L N fs 1 :: lb L N fs 2 :: lb L N fs 3 :: rest) (4 * part)) (rowA (qL 0) L n) = some (fs.set 0 f) := by
      intro M f rest hf
      rw [← hn]
      refine zkt (by rw [List.length_set]; exact hfl) hN (zag hfn2 hf) ?_
      intro j hj
      rw [hg f j hj]
      rcases (by omega : j = 0 ∨ j = 1 ∨ j = 2 ∨ j = 3) with rfl | rfl | rfl | rfl
      all_goals first | rfl | simp [zcf, qL, lb, hj]
    refine Zs.frame (key _ _ _ _ _ _ hall) [0, 1, 2, 3, 4, 5] rfl rfl (by decide) (show ∀ p ∈ [0, 1, 2, 3, 4, 5], p < 6 by decide) ?_ ?_
    · intro k hk
      have hk : k < 6 := hk
      rcases (by omega : k = 0 ∨ k = 1 ∨ k = 2 ∨ k = 3 ∨ k = 4 ∨ k = 5) with rfl | rfl | rfl | rfl | rfl | rfl
      · rfl
      · exact congrArg (fun x => some (some x)) hw.symm
      all_goals first | rfl | exact congrArg some hls
    · rintro av h' ⟨rfl, rfl⟩
      refine ⟨rfl, ?_⟩
      simp only [Ya, List.map_cons, List.map_nil, renB, Option.map_some, List.length_cons, List.length_nil, Nat.reduceAdd, hw, List.set_cons_zero, List.set_cons_succ]
      simp only [renL, AV.ren, reduceIte, Nat.reduceEqDiff, List.append_nil, Yb, List.length_cons, List.length_nil, Nat.reduceAdd, Nat.reduceLT, List.getD_cons_zero, List.getD_cons_succ]
      rfl
  rcases Nat.lt_or_ge lane 2 with hl | hl
  · obtain rfl : lane = 1 := by omega
    have hw := hrow [0, 1, 3, 2, 4, 5] (by intro j hj; rcases (by omega : j = 0 ∨ j = 1 ∨ j = 2 ∨ j = 3) with rfl | rfl | rfl | rfl <;> rfl)
    have hall : ∀ M f rest, f.length = N → allOf (Jr (M :: some (rowA (qL 1) L n) :: some [.arr N .u64 f] :: lb L N fs 0 :: lb L N fs 2 :: lb L N fs 3 :: rest) (4 * part)) (rowA (qL 1) L n) = some (fs.set 1 f) := by
      intro M f rest hf
      rw [← hn]
      refine zkt (by rw [List.length_set]; exact hfl) hN (zag hfn2 hf) ?_
      intro j hj
      rw [hg f j hj]
      rcases (by omega : j = 0 ∨ j = 1 ∨ j = 2 ∨ j = 3) with rfl | rfl | rfl | rfl
      all_goals first | rfl | simp [zcf, qL, lb, hj]
    refine Zs.frame (key _ _ _ _ _ _ hall) [0, 1, 3, 2, 4, 5] rfl rfl (by decide) (show ∀ p ∈ [0, 1, 3, 2, 4, 5], p < 6 by decide) ?_ ?_
    · intro k hk
      have hk : k < 6 := hk
      rcases (by omega : k = 0 ∨ k = 1 ∨ k = 2 ∨ k = 3 ∨ k = 4 ∨ k = 5) with rfl | rfl | rfl | rfl | rfl | rfl
      · rfl
      · exact congrArg (fun x => some (some x)) hw.symm
      all_goals first | rfl | exact congrArg some hls
    · rintro av h' ⟨rfl, rfl⟩
      refine ⟨rfl, ?_⟩
      simp only [Ya, List.map_cons, List.map_nil, renB, Option.map_some, List.length_cons, List.length_nil, Nat.reduceAdd, hw, List.set_cons_zero, List.set_cons_succ]
      simp only [renL, AV.ren, reduceIte, Nat.reduceEqDiff, List.append_nil, Yb, List.length_cons, List.length_nil, Nat.reduceAdd, Nat.reduceLT, List.getD_cons_zero, List.getD_cons_succ]
      rfl
  rcases Nat.lt_or_ge lane 3 with hl | hl
  · obtain rfl : lane = 2 := by omega
    have hw := hrow [0, 1, 4, 2, 3, 5] (by intro j hj; rcases (by omega : j = 0 ∨ j = 1 ∨ j = 2 ∨ j = 3) with rfl | rfl | rfl | rfl <;> rfl)
    have hall : ∀ M f rest, f.length = N → allOf (Jr (M :: some (rowA (qL 2) L n) :: some [.arr N .u64 f] :: lb L N fs 0 :: lb L N fs 1 :: lb L N fs 3 :: rest) (4 * part)) (rowA (qL 2) L n) = some (fs.set 2 f) := by
      intro M f rest hf
      rw [← hn]
      refine zkt (by rw [List.length_set]; exact hfl) hN (zag hfn2 hf) ?_
      intro j hj
      rw [hg f j hj]
      rcases (by omega : j = 0 ∨ j = 1 ∨ j = 2 ∨ j = 3) with rfl | rfl | rfl | rfl
      all_goals first | rfl | simp [zcf, qL, lb, hj]
    refine Zs.frame (key _ _ _ _ _ _ hall) [0, 1, 4, 2, 3, 5] rfl rfl (by decide) (show ∀ p ∈ [0, 1, 4, 2, 3, 5], p < 6 by decide) ?_ ?_
    · intro k hk
      have hk : k < 6 := hk
      rcases (by omega : k = 0 ∨ k = 1 ∨ k = 2 ∨ k = 3 ∨ k = 4 ∨ k = 5) with rfl | rfl | rfl | rfl | rfl | rfl
      · rfl
      · exact congrArg (fun x => some (some x)) hw.symm
      all_goals first | rfl | exact congrArg some hls
    · rintro av h' ⟨rfl, rfl⟩
      refine ⟨rfl, ?_⟩
      simp only [Ya, List.map_cons, List.map_nil, renB, Option.map_some, List.length_cons, List.length_nil, Nat.reduceAdd, hw, List.set_cons_zero, List.set_cons_succ]
      simp only [renL, AV.ren, reduceIte, Nat.reduceEqDiff, List.append_nil, Yb, List.length_cons, List.length_nil, Nat.reduceAdd, Nat.reduceLT, List.getD_cons_zero, List.getD_cons_succ]
      rfl
  rcases Nat.lt_or_ge lane 4 with hl | hl
  · obtain rfl : lane = 3 := by omega
    have hw := hrow [0, 1, 5, 2, 3, 4] (by intro j hj; rcases (by omega : j = 0 ∨ j = 1 ∨ j = 2 ∨ j = 3) with rfl | rfl | rfl | rfl <;> rfl)
    have hall : ∀ M f rest, f.length = N → allOf (Jr (M :: some (rowA (qL 3) L n) :: some [.arr N .u64 f] :: lb L N fs 0 :: lb L N fs 1 :: lb L N fs 2 :: rest) (4 * part)) (rowA (qL 3) L n) = some (fs.set 3 f) := by
      intro M f rest hf
      rw [← hn]
      refine zkt (by rw [List.length_set]; exact hfl) hN (zag hfn2 hf) ?_
      intro j hj
      rw [hg f j hj]
      rcases (by omega : j = 0 ∨ j = 1 ∨ j = 2 ∨ j = 3) with rfl | rfl | rfl | rfl
      all_goals first | rfl | simp [zcf, qL, lb, hj]
    refine Zs.frame (key _ _ _ _ _ _ hall) [0, 1, 5, 2, 3, 4] rfl rfl (by decide) (show ∀ p ∈ [0, 1, 5, 2, 3, 4], p < 6 by decide) ?_ ?_
    · intro k hk
      have hk : k < 6 := hk
      rcases (by omega : k = 0 ∨ k = 1 ∨ k = 2 ∨ k = 3 ∨ k = 4 ∨ k = 5) with rfl | rfl | rfl | rfl | rfl | rfl
      · rfl
      · exact congrArg (fun x => some (some x)) hw.symm
      all_goals first | rfl | exact congrArg some hls
    · rintro av h' ⟨rfl, rfl⟩
      refine ⟨rfl, ?_⟩
      simp only [Ya, List.map_cons, List.map_nil, renB, Option.map_some, List.length_cons, List.length_nil, Nat.reduceAdd, hw, List.set_cons_zero, List.set_cons_succ]
      simp only [renL, AV.ren, reduceIte, Nat.reduceEqDiff, List.append_nil, Yb, List.length_cons, List.length_nil, Nat.reduceAdd, Nat.reduceLT, List.getD_cons_zero, List.getD_cons_succ]
      rfl
  omega
end Go.Proofs.Ytfnfmbikooeiaaa
