/- Part of the proof. -/
import Derived.Calls
import Derived.Laws.World
import Derived.Tactics
import Derived.Laws.Cells
import Derived.ChangeKeysEq
import Derived.WalkLawsBesides
import Derived.Laws.StructEq
import Derived.Laws.Tables
import Derived.Orders
import Derived.Laws.Append
set_option linter.unusedSimpArgs false
set_option linter.unusedVariables false
set_option maxHeartbeats 4000000
set_option maxRecDepth 100000
namespace Go.Ax

inductive AV where
  | v (x : Value)
  | arr (n : Nat) (k : IntKind) (l : List Int)
  | agg (ps : List AV)
  | tup (ps : List AV)
  | ptr (b base i : Nat)
  | sl (b base sz off len cap : Nat)
  | roI (k : IntKind) (l : List Int)
  | roL (sz : Nat) (es : List AV)
  | rop (x : AV)
  | lst (sz : Nat) (es : List AV)
  | fn (f : Fn) (first caps : List AV)
  | any
  deriving Inhabited

mutual
def AV.size : AV → Nat
  | .arr n _ _ => n
  | .agg ps => psize ps
  | .lst sz es => es.length * sz
  | .v _ | .tup _ | .ptr .. | .sl .. | .roI .. | .roL .. | .rop _ | .fn .. | .any => 1
def psize : List AV → Nat
  | [] => 0
  | p :: ps => p.size + psize ps
end
def AV.one : AV → Bool
  | .arr .. | .agg _ | .tup _ | .lst .. => false
  | _ => true
def sizes (es : List AV) (sz : Nat) : Prop := ∀ e ∈ es, e.size = sz ∧ (sz = 1 → e.one = true)

def flat : Value → Bool
  | .agg _ | .tuple _ => false
  | _ => true

def cellsAt (w : World) (a : Addr) (vs : List Value) : Prop :=
  ∃ c e fz, w.heap[a.block]? = some (.cells c e fz) ∧ ∃ pre post, c.toList = pre ++ vs ++ post ∧ pre.length = a.off

def room (w : World) (r n : Nat) : Prop := ∃ c e fz, w.heap[r]? = some (.cells c e fz) ∧ n ≤ c.size

def roAt (X : Nat → Prop) (w : World) (len : Nat) (vs : List Value) (cs : List Value) : Prop :=
  (∃ a cap, cs = [.slice (some a) len cap] ∧ a.spot = none ∧ ¬ X a.block ∧ cellsAt w a vs ∧ len ≤ cap) ∨ (len = 0 ∧ ∃ a, cs = [.slice a 0 0])

mutual
def AV.rel (X : Nat → Prop) (w : World) : List (Option Nat) → AV → List Value → Prop
  | _, .v x, cs => cs = [x] ∧ flat x = true
  | _, .arr n k l, cs => cs = l.map (Value.int k) ∧ l.length = n
  | ρ, .agg ps, cs => relAll X w ρ ps cs
  | _, .tup _, _ => False
  | ρ, .ptr b base i, cs => ∃ r, ρ[b]? = some (some r) ∧ cs = [.pointer (some ⟨r, base + i, none⟩)]
  | ρ, .sl b base sz off len cap, cs =>
    (∃ r o, ρ[b]? = some (some r) ∧ cs = [.slice (some ⟨r, o, none⟩) len cap] ∧ room w r o ∧ (cap = 0 ∨ o = base + off ∧ room w r (base + off + cap * sz)) ∧ len ≤ cap) ∨
    (ρ[b]? = some none ∧ cs = [.slice none 0 0] ∧ len = 0 ∧ cap = 0)
  | _, .roI k l, cs => roAt X w l.length (l.map (Value.int k)) cs
  | _, .roL sz es, cs => ∃ vs, relAll X w [] es vs ∧ roAt X w es.length vs cs ∧ sizes es sz
  | _, .rop x, cs => ∃ a vs, cs = [.pointer (some a)] ∧ a.spot = none ∧ ¬ X a.block ∧ AV.rel X w [] x vs ∧ cellsAt w a vs
  | _, .lst sz es, cs => relAll X w [] es cs ∧ sizes es sz
  | ρ, .fn f first caps, cs => ∃ f1 c1, cs = [.func f f1 c1] ∧ relVs X w ρ first f1.toList ∧ relVs X w ρ caps c1.toList
  | _, .any, cs => ∃ x, cs = [x] ∧ flat x = true
def relAll (X : Nat → Prop) (w : World) : List (Option Nat) → List AV → List Value → Prop
  | _, [], cs => cs = []
  | ρ, p :: ps, cs => ∃ a b, cs = a ++ b ∧ AV.rel X w ρ p a ∧ relAll X w ρ ps b
def AV.relV (X : Nat → Prop) (w : World) : List (Option Nat) → AV → Value → Prop
  | _, .any, _ => True
  | _, .arr n k l, v => v = .agg (l.map (Value.int k)).toArray ∧ l.length = n
  | ρ, .agg ps, v => ∃ cs, v = .agg cs ∧ relAll X w ρ ps cs.toList
  | ρ, .tup ps, v => ∃ vs, v = .tuple vs ∧ relVs X w ρ ps vs.toList
  | ρ, p, v => AV.rel X w ρ p [v]
def relVs (X : Nat → Prop) (w : World) : List (Option Nat) → List AV → List Value → Prop
  | _, [], cs => cs = []
  | ρ, p :: ps, cs => ∃ a b, cs = a :: b ∧ AV.relV X w ρ p a ∧ relVs X w ρ ps b
end
end Go.Ax

namespace Go.Kn
noncomputable def fc {α : Type} (n : Nat) (k : Nat → α) : α := Nat.rec (motive := fun _ => α) (k 0) (fun m _ => k (Nat.succ m)) n
noncomputable def hd {α : Type} (l : List Nat) (k : Nat → List Nat → α) : α := List.rec (motive := fun _ => α) (k 0 []) (fun a t _ => k a t) l
noncomputable def xM (x y : Nat) : Nat := Nat.mod (Nat.xor x y) 18446744073709551616
noncomputable def zx {α : Type} (x y : List Nat) (k : List Nat → α) : α :=
  List.rec (motive := fun _ => List Nat → (List Nat → α) → α) (fun _ k => k [])
    (fun a _ ih y k => hd y fun b y => fc (xM a b) fun c => ih y fun l => k (c :: l)) x y k
noncomputable def dr (n : Nat) (l : List Nat) : List Nat := Nat.rec (motive := fun _ => List Nat → List Nat) (fun l => l) (fun _ ih l => List.rec (motive := fun _ => List Nat) [] (fun _ l' _ => ih l') l) n l
noncomputable def tkC {α : Type} (n : Nat) (l : List Nat) (k : List Nat → List Nat → α) : α :=
  Nat.rec (motive := fun _ => List Nat → (List Nat → List Nat → α) → α) (fun l k => k [] l) (fun _ ih l k => hd l fun a l => ih l fun t r => k (a :: t) r) n l k
noncomputable def fP (x y : Nat) : Nat := Nat.mod (Nat.add (Nat.add x y) (Nat.mul 2 (Nat.mul (Nat.mod x 4294967296) (Nat.mod y 4294967296)))) 18446744073709551616
noncomputable def rx (n m x y : Nat) : Nat := fc (xM x y) fun z => Nat.mod (Nat.lor (Nat.shiftRight z n) (Nat.shiftLeft z m)) 18446744073709551616
noncomputable def gP {α : Type} (a b c d : Nat) (k : Nat → Nat → Nat → Nat → α) : α :=
  fc (fP a b) fun a => fc (rx 32 32 d a) fun d => fc (fP c d) fun c => fc (rx 24 40 b c) fun b => fc (fP a b) fun a => fc (rx 16 48 d a) fun d => fc (fP c d) fun c => fc (rx 63 1 b c) fun b => k a b c d
noncomputable def aM (x y : Nat) : Nat := Nat.mod (Nat.add x y) 18446744073709551616
noncomputable def gB {α : Type} (a b c d x y : Nat) (k : Nat → Nat → Nat → Nat → α) : α :=
  fc (aM a (Nat.add b x)) fun a => fc (rx 32 32 d a) fun d => fc (aM c d) fun c => fc (rx 24 40 b c) fun b => fc (aM a (Nat.add b y)) fun a => fc (rx 16 48 d a) fun d => fc (aM c d) fun c => fc (rx 63 1 b c) fun b => k a b c d
noncomputable def stir {α : Type} (v0 v1 v2 v3 v4 v5 v6 v7 v8 v9 v10 v11 v12 v13 v14 v15 : Nat) (k : Nat → Nat → Nat → Nat → Nat → Nat → Nat → Nat → Nat → Nat → Nat → Nat → Nat → Nat → Nat → Nat → α) : α :=
  gP v0 v4 v8 v12 fun v0 v4 v8 v12 => gP v1 v5 v9 v13 fun v1 v5 v9 v13 => gP v2 v6 v10 v14 fun v2 v6 v10 v14 => gP v3 v7 v11 v15 fun v3 v7 v11 v15 => gP v0 v5 v10 v15 fun v0 v5 v10 v15 => gP v1 v6 v11 v12 fun v1 v6 v11 v12 => gP v2 v7 v8 v13 fun v2 v7 v8 v13 => gP v3 v4 v9 v14 fun v3 v4 v9 v14 => k v0 v1 v2 v3 v4 v5 v6 v7 v8 v9 v10 v11 v12 v13 v14 v15
noncomputable def rnd {α : Type} (v0 v1 v2 v3 v4 v5 v6 v7 v8 v9 v10 v11 v12 v13 v14 v15 s0 s1 s2 s3 s4 s5 s6 s7 s8 s9 s10 s11 s12 s13 s14 s15 : Nat) (k : Nat → Nat → Nat → Nat → Nat → Nat → Nat → Nat → Nat → Nat → Nat → Nat → Nat → Nat → Nat → Nat → α) : α :=
  gB v0 v4 v8 v12 s0 s1 fun v0 v4 v8 v12 => gB v1 v5 v9 v13 s2 s3 fun v1 v5 v9 v13 => gB v2 v6 v10 v14 s4 s5 fun v2 v6 v10 v14 => gB v3 v7 v11 v15 s6 s7 fun v3 v7 v11 v15 => gB v0 v5 v10 v15 s8 s9 fun v0 v5 v10 v15 => gB v1 v6 v11 v12 s10 s11 fun v1 v6 v11 v12 => gB v2 v7 v8 v13 s12 s13 fun v2 v7 v8 v13 => gB v3 v4 v9 v14 s14 s15 fun v3 v4 v9 v14 => k v0 v1 v2 v3 v4 v5 v6 v7 v8 v9 v10 v11 v12 v13 v14 v15
noncomputable def un16 {α : Type} (l : List Nat) (k : Nat → Nat → Nat → Nat → Nat → Nat → Nat → Nat → Nat → Nat → Nat → Nat → Nat → Nat → Nat → Nat → List Nat → α) : α :=
  hd l fun v0 l => hd l fun v1 l => hd l fun v2 l => hd l fun v3 l => hd l fun v4 l => hd l fun v5 l => hd l fun v6 l => hd l fun v7 l => hd l fun v8 l => hd l fun v9 l => hd l fun v10 l => hd l fun v11 l => hd l fun v12 l => hd l fun v13 l => hd l fun v14 l => hd l fun v15 l => k v0 v1 v2 v3 v4 v5 v6 v7 v8 v9 v10 v11 v12 v13 v14 v15 l
noncomputable def smC {α : Type} (t : List (List Nat)) (k : List (List Nat) → α) : α :=
  List.rec (motive := fun _ => (List (List Nat) → α) → α) (fun k => k []) (fun a _ ih k => un16 a fun v0 v1 v2 v3 v4 v5 v6 v7 v8 v9 v10 v11 v12 v13 v14 v15 _ => stir v0 v1 v2 v3 v4 v5 v6 v7 v8 v9 v10 v11 v12 v13 v14 v15 fun v0 v1 v2 v3 v4 v5 v6 v7 v8 v9 v10 v11 v12 v13 v14 v15 => ih fun t => k ([v0, v1, v2, v3, v4, v5, v6, v7, v8, v9, v10, v11, v12, v13, v14, v15] :: t)) t k
noncomputable def spC {α : Type} (n : Nat) (l : List Nat) (k : List (List Nat) → α) : α :=
  Nat.rec (motive := fun _ => List Nat → (List (List Nat) → α) → α) (fun _ k => k []) (fun _ ih l k => tkC 16 l fun a l => ih l fun t => k (a :: t)) n l k
noncomputable def hdsC {α : Type} (t : List (List Nat)) (k : List Nat → List (List Nat) → α) : α :=
  List.rec (motive := fun _ => (List Nat → List (List Nat) → α) → α) (fun k => k [] []) (fun a _ ih k => hd a fun x a => hd a fun y a => ih fun c r => k (x :: y :: c) (a :: r)) t k
noncomputable def trC {α : Type} (n : Nat) (t : List (List Nat)) (k : List (List Nat) → α) : α :=
  Nat.rec (motive := fun _ => List (List Nat) → (List (List Nat) → α) → α) (fun _ k => k []) (fun _ ih t k => hdsC t fun c t => ih t fun r => k (c :: r)) n t k
noncomputable def gt (l : List Nat) (i : Nat) : Nat := List.rec (motive := fun _ => Nat → Nat) (fun _ => 0) (fun a _ ih i => Nat.rec (motive := fun _ => Nat) a (fun j _ => ih j) i) l i
noncomputable def apC {α : Type} (p t : List Nat) (k : List Nat → α) : α := List.rec (motive := fun _ => (List Nat → α) → α) (fun k => k t) (fun a _ ih k => ih fun l => k (a :: l)) p k
noncomputable def flC {α : Type} (t : List (List Nat)) (k : List Nat → α) : α := List.rec (motive := fun _ => (List Nat → α) → α) (fun k => k []) (fun a _ ih k => ih fun l => apC a l k) t k
noncomputable def pageC {α : Type} (x y : List Nat) (k : List Nat → α) : α :=
  zx x y fun r => spC 8 r fun t => smC t fun t => trC 8 t fun t => smC t fun t => trC 8 t fun t => flC t fun z => zx z r k
noncomputable def roundsC {α : Type} (v0 v1 v2 v3 v4 v5 v6 v7 v8 v9 v10 v11 v12 v13 v14 v15 m0 m1 m2 m3 m4 m5 m6 m7 m8 m9 m10 m11 m12 m13 m14 m15 : Nat) (k : Nat → Nat → Nat → Nat → Nat → Nat → Nat → Nat → Nat → Nat → Nat → Nat → Nat → Nat → Nat → Nat → α) : α :=
  rnd v0 v1 v2 v3 v4 v5 v6 v7 v8 v9 v10 v11 v12 v13 v14 v15 m0 m1 m2 m3 m4 m5 m6 m7 m8 m9 m10 m11 m12 m13 m14 m15 fun v0 v1 v2 v3 v4 v5 v6 v7 v8 v9 v10 v11 v12 v13 v14 v15 =>
  rnd v0 v1 v2 v3 v4 v5 v6 v7 v8 v9 v10 v11 v12 v13 v14 v15 m14 m10 m4 m8 m9 m15 m13 m6 m1 m12 m0 m2 m11 m7 m5 m3 fun v0 v1 v2 v3 v4 v5 v6 v7 v8 v9 v10 v11 v12 v13 v14 v15 =>
  rnd v0 v1 v2 v3 v4 v5 v6 v7 v8 v9 v10 v11 v12 v13 v14 v15 m11 m8 m12 m0 m5 m2 m15 m13 m10 m14 m3 m6 m7 m1 m9 m4 fun v0 v1 v2 v3 v4 v5 v6 v7 v8 v9 v10 v11 v12 v13 v14 v15 =>
  rnd v0 v1 v2 v3 v4 v5 v6 v7 v8 v9 v10 v11 v12 v13 v14 v15 m7 m9 m3 m1 m13 m12 m11 m14 m2 m6 m5 m10 m4 m0 m15 m8 fun v0 v1 v2 v3 v4 v5 v6 v7 v8 v9 v10 v11 v12 v13 v14 v15 =>
  rnd v0 v1 v2 v3 v4 v5 v6 v7 v8 v9 v10 v11 v12 v13 v14 v15 m9 m0 m5 m7 m2 m4 m10 m15 m14 m1 m11 m12 m6 m8 m3 m13 fun v0 v1 v2 v3 v4 v5 v6 v7 v8 v9 v10 v11 v12 v13 v14 v15 =>
  rnd v0 v1 v2 v3 v4 v5 v6 v7 v8 v9 v10 v11 v12 v13 v14 v15 m2 m12 m6 m10 m0 m11 m8 m3 m4 m13 m7 m5 m15 m14 m1 m9 fun v0 v1 v2 v3 v4 v5 v6 v7 v8 v9 v10 v11 v12 v13 v14 v15 =>
  rnd v0 v1 v2 v3 v4 v5 v6 v7 v8 v9 v10 v11 v12 v13 v14 v15 m12 m5 m1 m15 m14 m13 m4 m10 m0 m7 m6 m3 m9 m2 m8 m11 fun v0 v1 v2 v3 v4 v5 v6 v7 v8 v9 v10 v11 v12 v13 v14 v15 =>
  rnd v0 v1 v2 v3 v4 v5 v6 v7 v8 v9 v10 v11 v12 v13 v14 v15 m13 m11 m7 m14 m12 m1 m3 m9 m5 m0 m15 m4 m8 m6 m2 m10 fun v0 v1 v2 v3 v4 v5 v6 v7 v8 v9 v10 v11 v12 v13 v14 v15 =>
  rnd v0 v1 v2 v3 v4 v5 v6 v7 v8 v9 v10 v11 v12 v13 v14 v15 m6 m15 m14 m9 m11 m3 m0 m8 m12 m2 m13 m7 m1 m4 m10 m5 fun v0 v1 v2 v3 v4 v5 v6 v7 v8 v9 v10 v11 v12 v13 v14 v15 =>
  rnd v0 v1 v2 v3 v4 v5 v6 v7 v8 v9 v10 v11 v12 v13 v14 v15 m10 m2 m8 m4 m7 m6 m1 m5 m15 m11 m9 m14 m3 m12 m13 m0 fun v0 v1 v2 v3 v4 v5 v6 v7 v8 v9 v10 v11 v12 v13 v14 v15 =>
  rnd v0 v1 v2 v3 v4 v5 v6 v7 v8 v9 v10 v11 v12 v13 v14 v15 m0 m1 m2 m3 m4 m5 m6 m7 m8 m9 m10 m11 m12 m13 m14 m15 fun v0 v1 v2 v3 v4 v5 v6 v7 v8 v9 v10 v11 v12 v13 v14 v15 =>
  rnd v0 v1 v2 v3 v4 v5 v6 v7 v8 v9 v10 v11 v12 v13 v14 v15 m14 m10 m4 m8 m9 m15 m13 m6 m1 m12 m0 m2 m11 m7 m5 m3 fun v0 v1 v2 v3 v4 v5 v6 v7 v8 v9 v10 v11 v12 v13 v14 v15 =>
  k v0 v1 v2 v3 v4 v5 v6 v7 v8 v9 v10 v11 v12 v13 v14 v15
noncomputable def wordC {α : Type} (l : List Nat) (k : Nat → List Nat → α) : α :=
  hd l fun b0 l => hd l fun b1 l => hd l fun b2 l => hd l fun b3 l => hd l fun b4 l => hd l fun b5 l => hd l fun b6 l => hd l fun b7 l => fc (Nat.add (Nat.add (Nat.add (Nat.add (Nat.add (Nat.add (Nat.add (b0) (Nat.mul b1 256)) (Nat.mul b2 65536)) (Nat.mul b3 16777216)) (Nat.mul b4 4294967296)) (Nat.mul b5 1099511627776)) (Nat.mul b6 281474976710656)) (Nat.mul b7 72057594037927936)) fun w => k w l
noncomputable def wordsC {α : Type} (n : Nat) (l : List Nat) (k : List Nat → α) : α :=
  Nat.rec (motive := fun _ => List Nat → (List Nat → α) → α) (fun _ k => k []) (fun _ ih l k => wordC l fun w l => ih l fun t => k (w :: t)) n l k
noncomputable def un8n {α : Type} (l : List Nat) (k : Nat → Nat → Nat → Nat → Nat → Nat → Nat → Nat → α) : α := hd l fun h0 l => hd l fun h1 l => hd l fun h2 l => hd l fun h3 l => hd l fun h4 l => hd l fun h5 l => hd l fun h6 l => hd l fun h7 l => k h0 h1 h2 h3 h4 h5 h6 h7
noncomputable def pieceC {α : Type} (h p : List Nat) (t x : Nat) (k : List Nat → α) : α :=
  wordsC 16 p fun w => un16 w fun m0 m1 m2 m3 m4 m5 m6 m7 m8 m9 m10 m11 m12 m13 m14 m15 _ => un8n h fun h0 h1 h2 h3 h4 h5 h6 h7 => fc (xM 5840696475078001361 t) fun v12 => fc (xM x 2270897969802886507) fun v14 =>
  roundsC h0 h1 h2 h3 h4 h5 h6 h7 7640891576956012808 13503953896175478587 4354685564936845355 11912009170470909681 v12 11170449401992604703 v14 6620516959819538809 m0 m1 m2 m3 m4 m5 m6 m7 m8 m9 m10 m11 m12 m13 m14 m15 fun v0 v1 v2 v3 v4 v5 v6 v7 v8 v9 v10 v11 v12 v13 v14 v15 =>
  fc (xM h0 (xM v0 v8)) fun h0 => fc (xM h1 (xM v1 v9)) fun h1 => fc (xM h2 (xM v2 v10)) fun h2 => fc (xM h3 (xM v3 v11)) fun h3 => fc (xM h4 (xM v4 v12)) fun h4 => fc (xM h5 (xM v5 v13)) fun h5 => fc (xM h6 (xM v6 v14)) fun h6 => fc (xM h7 (xM v7 v15)) fun h7 => k [h0, h1, h2, h3, h4, h5, h6, h7]
noncomputable def piecesC {α : Type} (q : Nat) (i : Nat) (h all : List Nat) (k : List Nat → List Nat → α) : α :=
  Nat.rec (motive := fun _ => Nat → List Nat → List Nat → α) (fun _ h all => k h all) (fun _ ih i h all => tkC 128 all fun p all => fc (Nat.add (Nat.mul 128 i) 128) fun t => pieceC h p t 0 fun h => ih (Nat.succ i) h all) q i h all
noncomputable def bytesW {α : Type} (w : Nat) (t : List Nat) (k : List Nat → α) : α :=
  fc (Nat.mod (Nat.div w 1) 256) fun b0 => fc (Nat.mod (Nat.div w 256) 256) fun b1 => fc (Nat.mod (Nat.div w 65536) 256) fun b2 => fc (Nat.mod (Nat.div w 16777216) 256) fun b3 => fc (Nat.mod (Nat.div w 4294967296) 256) fun b4 => fc (Nat.mod (Nat.div w 1099511627776) 256) fun b5 => fc (Nat.mod (Nat.div w 281474976710656) 256) fun b6 => fc (Nat.mod (Nat.div w 72057594037927936) 256) fun b7 => k (b0 :: b1 :: b2 :: b3 :: b4 :: b5 :: b6 :: b7 :: t)
noncomputable def bytesC {α : Type} (l : List Nat) (k : List Nat → α) : α :=
  List.rec (motive := fun _ => (List Nat → α) → α) (fun k => k []) (fun w _ ih k => ih fun t => bytesW w t k) l k
noncomputable def hashC {α : Type} (n len : Nat) (all : List Nat) (k : List Nat → α) : α :=
  fc (xM 7640891576956012808 (xM 16842752 n)) fun h0 => fc (Nat.div (Nat.sub len 1) 128) fun q =>
  piecesC q 0 [h0, 13503953896175478587, 4354685564936845355, 11912009170470909681, 5840696475078001361, 11170449401992604703, 2270897969802886507, 6620516959819538809] all fun h r => tkC 128 r fun p _ => pieceC h p len 18446744073709551615 fun h => bytesC h fun b => tkC n b fun d _ => k d
noncomputable def longC {α : Type} (len : Nat) (all : List Nat) (k : List Nat → α) : α :=
  hashC 64 len all fun d => Nat.rec (motive := fun _ => List Nat → (List Nat → α) → α) (fun d k => k d) (fun _ ih d k => tkC 32 d fun u _ => hashC 64 64 d fun d => ih d fun t => apC u t k) 30 d k
noncomputable def four (n : Nat) : List Nat := [Nat.mod n 256, Nat.mod (Nat.div n 256) 256, Nat.mod (Nat.div n 65536) 256, Nat.mod (Nat.div n 16777216) 256]
noncomputable def allC {α : Type} (l : List Nat) (k : List Nat → α) : α := List.rec (motive := fun _ => (List Nat → α) → α) (fun k => k []) (fun a _ ih k => fc a fun a => ih fun l => k (a :: l)) l k
noncomputable def begC {α : Type} (seed : List Nat) (i l : Nat) (k : List Nat → α) : α :=
  allC (List.append (four 1024) (List.append seed (List.append (four i) (four l)))) fun m => longC 76 m fun b => wordsC 128 b k
noncomputable def gl (fs : List (List Nat)) (i : Nat) : List Nat := List.rec (motive := fun _ => Nat → List Nat) (fun _ => []) (fun a _ ih i => Nat.rec (motive := fun _ => List Nat) a (fun j _ => ih j) i) fs i
noncomputable def sl {α : Type} (fs : List (List Nat)) (i : Nat) (x : List Nat) (k : List (List Nat) → α) : α :=
  List.rec (motive := fun _ => Nat → (List (List Nat) → α) → α) (fun _ k => k []) (fun a l ih i k => Nat.rec (motive := fun _ => α) (k (x :: l)) (fun j _ => ih j (fun l' => k (a :: l'))) i) fs i k
noncomputable def pgC {α : Type} (f : List Nat) (j : Nat) (k : List Nat → α) : α := tkC 128 (dr (Nat.mul j 128) f) fun p _ => k p
noncomputable def ptC {α : Type} (f : List Nat) (j : Nat) (p : List Nat) (k : List Nat → α) : α := tkC (Nat.mul j 128) f fun a f => tkC 128 f fun _ f => apC p f fun l => apC a l k
noncomputable def zeros : List Nat := List.replicate 128 0
noncomputable def adrC {α : Type} (pass slice lane t L part : Nat) (k : List Nat → α) : α :=
  pageC zeros ([pass, lane, slice, Nat.mul (Nat.mul 4 part) L, t, 2, 1] ++ List.replicate 121 0) fun a => pageC zeros a k
noncomputable def sel {α : Type} (b : Bool) (x y : α) : α := Bool.rec (motive := fun _ => α) y x b
noncomputable def ltb (a b : Nat) : Bool := Nat.ble (Nat.succ a) b
noncomputable def stepC {α : Type} (pass slice lane i L part : Nat) (a : List Nat) (fs : List (List Nat)) (k : List (List Nat) → α) : α :=
  fc (Nat.add (Nat.mul slice part) i) fun here => fc (Nat.mul 4 part) fun n => pgC (gl fs lane) (Nat.mod (Nat.sub (Nat.add here n) 1) n) fun ah =>
  fc (sel (Bool.and (Nat.beq pass 0) (ltb slice 2)) (gt a i) (gt ah 0)) fun w =>
  fc (sel (Bool.and (Nat.beq pass 0) (Nat.beq slice 0)) lane (Nat.mod (Nat.div w 4294967296) L)) fun ol =>
  fc (sel (ltb 0 pass) (Nat.mul 3 part) (Nat.mul slice part)) fun d =>
  fc (sel (Nat.beq ol lane) (Nat.sub (Nat.add d i) 1) (sel (Nat.beq i 0) (Nat.sub d 1) d)) fun d =>
  fc (Nat.mod w 4294967296) fun j => fc (Nat.sub (Nat.sub d 1) (Nat.div (Nat.mul d (Nat.div (Nat.mul j j) 4294967296)) 4294967296)) fun wh =>
  fc (Nat.mod (Nat.add (sel (ltb 0 pass) (Nat.mul (Nat.succ slice) part) 0) wh) n) fun ox =>
  pgC (gl fs ol) ox fun o => pageC ah o fun p =>
  sel (ltb 0 pass) (pgC (gl fs lane) here fun old => zx p old fun p => ptC (gl fs lane) here p fun f => sl fs lane f k) (ptC (gl fs lane) here p fun f => sl fs lane f k)
noncomputable def sliceC {α : Type} (pass slice lane t L part : Nat) (fs : List (List Nat)) (k : List (List Nat) → α) : α :=
  fc (sel (Bool.and (Nat.beq pass 0) (Nat.beq slice 0)) 2 0) fun lo => fc (Nat.sub part lo) fun c =>
  sel (Bool.and (Nat.beq pass 0) (ltb slice 2))
   (adrC pass slice lane t L part fun a => Nat.rec (motive := fun _ => Nat → List (List Nat) → α) (fun _ fs => k fs) (fun _ ih i fs => stepC pass slice lane i L part a fs fun fs => fc (Nat.succ i) fun i => ih i fs) c lo fs)
   (Nat.rec (motive := fun _ => Nat → List (List Nat) → α) (fun _ fs => k fs) (fun _ ih i fs => stepC pass slice lane i L part [] fs fun fs => fc (Nat.succ i) fun i => ih i fs) c lo fs)
noncomputable def lanesC {α : Type} (n lane pass slice t L part : Nat) (fs : List (List Nat)) (k : List (List Nat) → α) : α :=
  Nat.rec (motive := fun _ => Nat → List (List Nat) → α) (fun _ fs => k fs) (fun _ ih l fs => sliceC pass slice l t L part fs fun fs => fc (Nat.succ l) fun l => ih l fs) n lane fs
noncomputable def slicesC {α : Type} (n s pass t L part : Nat) (fs : List (List Nat)) (k : List (List Nat) → α) : α :=
  Nat.rec (motive := fun _ => Nat → List (List Nat) → α) (fun _ fs => k fs) (fun _ ih s fs => lanesC L 0 pass s t L part fs fun fs => fc (Nat.succ s) fun s => ih s fs) n s fs
noncomputable def passC {α : Type} (n p t L part : Nat) (fs : List (List Nat)) (k : List (List Nat) → α) : α :=
  Nat.rec (motive := fun _ => Nat → List (List Nat) → α) (fun _ fs => k fs) (fun _ ih p fs => slicesC 4 0 p t L part fs fun fs => fc (Nat.succ p) fun p => ih p fs) n p fs
noncomputable def beginC {α : Type} (n l : Nat) (seed z : List Nat) (k : List (List Nat) → α) : α :=
  Nat.rec (motive := fun _ => Nat → (List (List Nat) → α) → α) (fun _ k => k []) (fun _ ih l k => begC seed 0 l fun a => begC seed 1 l fun b => apC b z fun f => apC a f fun f => fc (Nat.succ l) fun l => ih l fun fs => k (f :: fs)) n l k
noncomputable def sumC {α : Type} (n : Nat) (fs : List (List Nat)) (u : List Nat) (k : List Nat → α) : α :=
  List.rec (motive := fun _ => List Nat → α) (fun u => k u) (fun f _ ih u => pgC f (Nat.sub n 1) fun g => zx u g fun u => ih u) fs u
noncomputable def keyC {α : Type} (text : List Nat) (len : Nat) (k : List Nat → α) : α :=
  allC text fun text => hashC 64 len text fun seed => allC (List.replicate 768 0) fun z => beginC 4 0 seed z fun fs => passC 3 0 3 4 2 fs fun fs => allC zeros fun u => sumC 8 fs u fun u => bytesC u fun b => hashC 32 1028 ([32, 0, 0, 0] ++ b) k
noncomputable def textN : List Nat := [4,0,0,0, 32,0,0,0, 32,0,0,0, 3,0,0,0, 19,0,0,0, 2,0,0,0, 32,0,0,0] ++ List.replicate 32 1 ++ [16,0,0,0] ++ List.replicate 16 2 ++ [8,0,0,0] ++ List.replicate 8 3 ++ [12,0,0,0] ++ List.replicate 12 4
end Go.Kn

namespace Go.Ax
variable {X : Nat → Prop} {w w' : World}

mutual
theorem rel_len : ∀ (p : AV) (ρ : List (Option Nat)) (cs : List Value), AV.rel X w ρ p cs → cs.length = p.size
  | .v x, ρ, cs, h => by simp only [AV.rel] at h; simp [h.1, AV.size]
  | .arr n k l, ρ, cs, h => by simp only [AV.rel] at h; simp [h.1, h.2, AV.size]
  | .agg ps, ρ, cs, h => by simp only [AV.rel] at h; simpa [AV.size] using relAll_len ps ρ cs h
  | .tup ps, ρ, cs, h => by simp only [AV.rel] at h
  | .ptr b base i, ρ, cs, h => by simp only [AV.rel] at h; obtain ⟨r, _, rfl⟩ := h; simp [AV.size]
  | .sl b base sz off len cap, ρ, cs, h => by
    simp only [AV.rel] at h; rcases h with ⟨r, o, _, rfl, _⟩ | ⟨_, rfl, _⟩ <;> simp [AV.size]
  | .roI k l, ρ, cs, h => by simp only [AV.rel, roAt] at h; rcases h with ⟨a, c, rfl, _⟩ | ⟨_, a, rfl⟩ <;> simp [AV.size]
  | .roL sz es, ρ, cs, h => by simp only [AV.rel, roAt] at h; obtain ⟨vs, _, h, _⟩ := h; rcases h with ⟨a, c, rfl, _⟩ | ⟨_, a, rfl⟩ <;> simp [AV.size]
  | .rop x, ρ, cs, h => by simp only [AV.rel] at h; obtain ⟨a, vs, rfl, _⟩ := h; simp [AV.size]
  | .lst sz es, ρ, cs, h => by
    simp only [AV.rel] at h
    have h1 := relAll_len es [] cs h.1
    rw [h1]
    have : ∀ l : List AV, sizes l sz → psize l = l.length * sz := by
      intro l
      induction l with
      | nil => intro _; simp [psize]
      | cons a l ih =>
        intro hs
        have h1 := (hs a (by simp)).1
        have h2 := ih (fun e he => hs e (by simp [he]))
        simp only [psize, List.length_cons, h1, h2]
        rw [Nat.succ_mul]; omega
    simpa [AV.size] using this es h.2
  | .fn f a b, ρ, cs, h => by simp only [AV.rel] at h; obtain ⟨r, _, rfl, _⟩ := h; simp [AV.size]
  | .any, ρ, cs, h => by simp only [AV.rel] at h; obtain ⟨r, rfl, _⟩ := h; simp [AV.size]
theorem relAll_len : ∀ (ps : List AV) (ρ : List (Option Nat)) (cs : List Value), relAll X w ρ ps cs → cs.length = psize ps
  | [], ρ, cs, h => by simp only [relAll] at h; simp [h, psize]
  | p :: ps, ρ, cs, h => by
    simp only [relAll] at h
    obtain ⟨a, b, rfl, h1, h2⟩ := h
    simp [psize, rel_len p ρ a h1, relAll_len ps ρ b h2]
end

theorem relAll_append {ρ : List (Option Nat)} : ∀ {ps qs : List AV} {cs : List Value}, relAll X w ρ (ps ++ qs) cs ↔ ∃ a b, cs = a ++ b ∧ relAll X w ρ ps a ∧ relAll X w ρ qs b
  | [], qs, cs => by
    simp only [List.nil_append, relAll]
    constructor
    · intro h; exact ⟨[], cs, by simp, rfl, h⟩
    · rintro ⟨a, b, rfl, rfl, h⟩; simpa using h
  | p :: ps, qs, cs => by
    simp only [List.cons_append, relAll, relAll_append (ps := ps)]
    constructor
    · rintro ⟨a, b, rfl, h1, c, d, rfl, h2, h3⟩
      exact ⟨a ++ c, d, by simp, ⟨a, c, rfl, h1, h2⟩, h3⟩
    · rintro ⟨_, d, rfl, ⟨a, c, rfl, h1, h2⟩, h3⟩
      exact ⟨a, c ++ d, by simp, h1, c, d, rfl, h2, h3⟩

theorem relAll_one {ρ : List (Option Nat)} {p : AV} {cs : List Value} : relAll X w ρ [p] cs ↔ AV.rel X w ρ p cs := by
  simp [relAll]

structure Keep (X : Nat → Prop) (w w' : World) : Prop where
  same : ∀ r, r < w.heap.size → ¬ X r → w'.heap[r]? = w.heap[r]?
  room : ∀ r n, room w r n → room w' r n

theorem Keep.refl : Keep X w w := ⟨fun _ _ _ => rfl, fun _ _ h => h⟩

theorem cellsAt.lt {a : Addr} {vs : List Value} (h : cellsAt w a vs) : a.block < w.heap.size := by
  obtain ⟨c, e, fz, h, _⟩ := h
  rcases Nat.lt_or_ge a.block w.heap.size with h' | h'
  · exact h'
  · simp [Array.getElem?_eq_none h'] at h

theorem room.lt {r n : Nat} (h : room w r n) : r < w.heap.size := by
  obtain ⟨c, e, fz, h, _⟩ := h
  rcases Nat.lt_or_ge r w.heap.size with h' | h'
  · exact h'
  · simp [Array.getElem?_eq_none h'] at h

theorem cellsAt.keep {a : Addr} {vs : List Value} (h : cellsAt w a vs) (k : Keep X w w') (hx : ¬ X a.block) : cellsAt w' a vs := by
  have hl := h.lt
  obtain ⟨c, e, fz, h, t⟩ := h
  exact ⟨c, e, fz, (k.same _ hl hx).trans h, t⟩

theorem roAt.keep {X' : Nat → Prop} {n : Nat} {vs cs : List Value} (h : roAt X w n vs cs) (k : Keep X w w') (hx : ∀ r, r < w.heap.size → X' r → X r) : roAt X' w' n vs cs := by
  rcases h with ⟨a, c, h1, h2, h3, h4, h5⟩ | h
  · exact .inl ⟨a, c, h1, h2, fun hh => h3 (hx _ h4.lt hh), h4.keep k h3, h5⟩
  · exact .inr h

mutual
theorem rel_keep {X' : Nat → Prop} (k : Keep X w w') (hx : ∀ r, r < w.heap.size → X' r → X r) : ∀ (p : AV) (ρ ρ' : List (Option Nat)) (cs : List Value),
    (∀ (b : Nat) o, ρ[b]? = some o → ρ'[b]? = some o) → AV.rel X w ρ p cs → AV.rel X' w' ρ' p cs
  | .v x, ρ, ρ', cs, hr, h => by simpa only [AV.rel] using h
  | .arr n k l, ρ, ρ', cs, hr, h => by simpa only [AV.rel] using h
  | .agg ps, ρ, ρ', cs, hr, h => by simp only [AV.rel] at h ⊢; exact relAll_keep k hx ps ρ ρ' cs hr h
  | .tup ps, ρ, ρ', cs, hr, h => by simp only [AV.rel] at h
  | .ptr b base i, ρ, ρ', cs, hr, h => by simp only [AV.rel] at h ⊢; obtain ⟨r, h1, h2⟩ := h; exact ⟨r, hr _ _ h1, h2⟩
  | .sl b base sz off len cap, ρ, ρ', cs, hr, h => by
    simp only [AV.rel] at h ⊢
    rcases h with ⟨r, o, h1, h2, h3, h4, h5⟩ | ⟨h1, h2⟩
    · exact .inl ⟨r, o, hr _ _ h1, h2, k.room _ _ h3, h4.imp id (fun h => ⟨h.1, k.room _ _ h.2⟩), h5⟩
    · exact .inr ⟨hr _ _ h1, h2⟩
  | .roI kk l, ρ, ρ', cs, hr, h => by simp only [AV.rel] at h ⊢; exact h.keep k hx
  | .roL sz es, ρ, ρ', cs, hr, h => by
    simp only [AV.rel] at h ⊢
    obtain ⟨vs, h1, h2, h3⟩ := h
    exact ⟨vs, relAll_keep k hx es [] [] vs (fun _ _ h => h) h1, h2.keep k hx, h3⟩
  | .rop x, ρ, ρ', cs, hr, h => by
    simp only [AV.rel] at h ⊢
    obtain ⟨a, vs, h1, h2, h3, h4, h5⟩ := h
    exact ⟨a, vs, h1, h2, fun hh => h3 (hx _ h5.lt hh), rel_keep k hx x [] [] vs (fun _ _ h => h) h4, h5.keep k h3⟩
  | .lst sz es, ρ, ρ', cs, hr, h => by
    simp only [AV.rel] at h ⊢
    exact ⟨relAll_keep k hx es [] [] cs (fun _ _ h => h) h.1, h.2⟩
  | .fn f a b, ρ, ρ', cs, hr, h => by
    simp only [AV.rel] at h ⊢
    obtain ⟨f1, c1, h1, h2, h3⟩ := h
    exact ⟨f1, c1, h1, relVs_keep k hx a ρ ρ' _ hr h2, relVs_keep k hx b ρ ρ' _ hr h3⟩
  | .any, ρ, ρ', cs, hr, h => by simpa only [AV.rel] using h
theorem relAll_keep {X' : Nat → Prop} (k : Keep X w w') (hx : ∀ r, r < w.heap.size → X' r → X r) : ∀ (ps : List AV) (ρ ρ' : List (Option Nat)) (cs : List Value),
    (∀ (b : Nat) o, ρ[b]? = some o → ρ'[b]? = some o) → relAll X w ρ ps cs → relAll X' w' ρ' ps cs
  | [], ρ, ρ', cs, hr, h => by simpa only [relAll] using h
  | p :: ps, ρ, ρ', cs, hr, h => by
    simp only [relAll] at h ⊢
    obtain ⟨a, b, h0, h1, h2⟩ := h
    exact ⟨a, b, h0, rel_keep k hx p ρ ρ' a hr h1, relAll_keep k hx ps ρ ρ' b hr h2⟩
theorem relV_keep {X' : Nat → Prop} (k : Keep X w w') (hx : ∀ r, r < w.heap.size → X' r → X r) : ∀ (p : AV) (ρ ρ' : List (Option Nat)) (v : Value),
    (∀ (b : Nat) o, ρ[b]? = some o → ρ'[b]? = some o) → AV.relV X w ρ p v → AV.relV X' w' ρ' p v
  | .any, ρ, ρ', v, hr, h => by simp only [AV.relV]
  | .arr n k l, ρ, ρ', v, hr, h => by simpa only [AV.relV] using h
  | .agg ps, ρ, ρ', v, hr, h => by
    simp only [AV.relV] at h ⊢
    obtain ⟨cs, h1, h2⟩ := h
    exact ⟨cs, h1, relAll_keep k hx ps ρ ρ' _ hr h2⟩
  | .tup ps, ρ, ρ', v, hr, h => by
    simp only [AV.relV] at h ⊢
    obtain ⟨cs, h1, h2⟩ := h
    exact ⟨cs, h1, relVs_keep k hx ps ρ ρ' _ hr h2⟩
  | .v x, ρ, ρ', cs, hr, h => by simp only [AV.relV] at h ⊢; exact rel_keep k hx _ ρ ρ' _ hr h
  | .ptr b base i, ρ, ρ', cs, hr, h => by simp only [AV.relV] at h ⊢; exact rel_keep k hx _ ρ ρ' _ hr h
  | .sl b base sz off len cap, ρ, ρ', cs, hr, h => by simp only [AV.relV] at h ⊢; exact rel_keep k hx _ ρ ρ' _ hr h
  | .roI kk l, ρ, ρ', cs, hr, h => by simp only [AV.relV] at h ⊢; exact rel_keep k hx _ ρ ρ' _ hr h
  | .roL sz es, ρ, ρ', cs, hr, h => by simp only [AV.relV] at h ⊢; exact rel_keep k hx (.roL sz es) ρ ρ' _ hr h
  | .rop x, ρ, ρ', cs, hr, h => by simp only [AV.relV] at h ⊢; exact rel_keep k hx (.rop x) ρ ρ' _ hr h
  | .lst sz es, ρ, ρ', cs, hr, h => by simp only [AV.relV] at h ⊢; exact rel_keep k hx (.lst sz es) ρ ρ' _ hr h
  | .fn f a b, ρ, ρ', cs, hr, h => by simp only [AV.relV] at h ⊢; exact rel_keep k hx (.fn f a b) ρ ρ' _ hr h
theorem relVs_keep {X' : Nat → Prop} (k : Keep X w w') (hx : ∀ r, r < w.heap.size → X' r → X r) : ∀ (ps : List AV) (ρ ρ' : List (Option Nat)) (cs : List Value),
    (∀ (b : Nat) o, ρ[b]? = some o → ρ'[b]? = some o) → relVs X w ρ ps cs → relVs X' w' ρ' ps cs
  | [], ρ, ρ', cs, hr, h => by simpa only [relVs] using h
  | p :: ps, ρ, ρ', cs, hr, h => by
    simp only [relVs] at h ⊢
    obtain ⟨a, b, h0, h1, h2⟩ := h
    exact ⟨a, b, h0, relV_keep k hx p ρ ρ' a hr h1, relVs_keep k hx ps ρ ρ' b hr h2⟩
end
end Go.Ax

namespace Go.Ax
variable {X : Nat → Prop} {w : World} {ρ : List (Option Nat)}

theorem relAll_mk {p : AV} {ps : List AV} {a b cs : List Value} (e : cs = a ++ b) (h1 : AV.rel X w ρ p a) (h2 : relAll X w ρ ps b) : relAll X w ρ (p :: ps) cs := by
  simp only [relAll]; exact ⟨a, b, e, h1, h2⟩

def oguard {α : Type} (c : Prop) [Decidable c] (x : Option α) : Option α := if c then x else none

theorem oguard_some {α : Type} {c : Prop} [Decidable c] {x : Option α} {y : α} (h : oguard c x = some y) : c ∧ x = some y := by
  unfold oguard at h
  split at h
  · exact ⟨‹_›, h⟩
  · cases h

def rowDrop : List AV → Nat → Option (List AV)
  | ps, 0 => some ps
  | [], _ + 1 => none
  | p :: ps, off + 1 =>
    if p.size ≤ off + 1 then rowDrop ps (off + 1 - p.size) else
    match p with
    | .arr n k l => some (.arr (n - (off + 1)) k (l.drop (off + 1)) :: ps)
    | _ => none

def rowTake : List AV → Nat → Option (List AV)
  | _, 0 => some []
  | [], _ + 1 => none
  | p :: ps, n + 1 =>
    if p.size ≤ n + 1 then (rowTake ps (n + 1 - p.size)).map (p :: ·) else
    match p with
    | .arr _ k l => some [.arr (n + 1) k (l.take (n + 1))]
    | _ => none

theorem rowDrop_rel : ∀ {ps qs : List AV} {off : Nat} {cs : List Value}, relAll X w ρ ps cs → rowDrop ps off = some qs → relAll X w ρ qs (cs.drop off)
  | ps, qs, 0, cs, h, e => by cases ps <;> (simp only [rowDrop, Option.some.injEq] at e; subst e; simpa using h)
  | [], qs, off + 1, cs, h, e => by simp [rowDrop] at e
  | p :: ps, qs, off + 1, cs, h, e => by
    simp only [relAll] at h
    obtain ⟨a, b, rfl, h1, h2⟩ := h
    have hl := rel_len _ _ _ h1
    unfold rowDrop at e
    split at e
    · have := rowDrop_rel h2 e
      rw [List.drop_append, hl, List.drop_eq_nil_of_le (by omega), List.nil_append]
      exact this
    · split at e
      · simp only [Option.some.injEq] at e
        subst e
        rename_i n k l hn
        simp only [AV.size] at hl hn
        rw [List.drop_append_of_le_length (by omega)]
        refine relAll_mk rfl ?_ h2
        simp only [AV.rel] at h1 ⊢
        obtain ⟨rfl, rfl⟩ := h1
        simp
      · cases e

theorem rowDrop_le : ∀ {ps rb : List AV} {off : Nat} {cs : List Value}, relAll X w ρ ps cs → rowDrop ps off = some rb → off ≤ cs.length
  | _, _, 0, _, _, _ => by simp
  | [], rb, n + 1, cs, h, e => by simp [rowDrop] at e
  | p :: ps, rb, n + 1, cs, h, e => by
    simp only [relAll] at h
    obtain ⟨a, b, rfl, h1, h2⟩ := h
    have hl := rel_len _ _ _ h1
    unfold rowDrop at e
    split at e
    · have := rowDrop_le h2 e; simp; omega
    · simp; omega

theorem rowTake_rel : ∀ {ps qs : List AV} {n : Nat} {cs : List Value}, relAll X w ρ ps cs → rowTake ps n = some qs → relAll X w ρ qs (cs.take n) ∧ n ≤ cs.length
  | ps, qs, 0, cs, h, e => by cases ps <;> (simp only [rowTake, Option.some.injEq] at e; subst e; simp [relAll])
  | [], qs, off + 1, cs, h, e => by simp [rowTake] at e
  | p :: ps, qs, off + 1, cs, h, e => by
    simp only [relAll] at h
    obtain ⟨a, b, rfl, h1, h2⟩ := h
    have hl := rel_len _ _ _ h1
    unfold rowTake at e
    split at e
    · obtain ⟨rs, he, rfl⟩ := Option.map_eq_some_iff.1 e
      have := rowTake_rel h2 he
      rw [List.take_append, hl, List.take_of_length_le (by omega)]
      refine ⟨relAll_mk rfl h1 this.1, ?_⟩
      simp; omega
    · split at e
      · simp only [Option.some.injEq] at e
        subst e
        rename_i n k l hn
        simp only [AV.size] at hl hn
        rw [List.take_append_of_le_length (by omega)]
        refine ⟨?_, by simp; omega⟩
        rw [relAll_one]
        simp only [AV.rel] at h1 ⊢
        obtain ⟨rfl, rfl⟩ := h1
        simp; omega
      · cases e

def rowCell : List AV → Nat → Option AV
  | [], _ => none
  | .arr n k l :: _, i => oguard (i < n) (some (.v (.int k (l.getD i 0))))
  | .lst sz es :: _, i => oguard (sz = 1 ∧ i < es.length) (some (es.getD i .any))
  | p :: _, 0 => if p.one then some p else none
  | p :: ps, i + 1 => if p.one then rowCell ps i else none

theorem rel_nil_lift {p : AV} {cs : List Value} (h : AV.rel X w [] p cs) : AV.rel X w ρ p cs :=
  rel_keep Keep.refl (fun _ _ h => h) p [] ρ cs (by simp) h

theorem relV_of_rel {p : AV} {x : Value} (ho : p.one = true) (h : AV.rel X w ρ p [x]) : AV.relV X w ρ p x := by
  cases p <;> simp only [AV.one, Bool.false_eq_true] at ho <;> simp only [AV.relV] <;> exact h

theorem one_size {p : AV} (ho : p.one = true) : p.size = 1 := by
  cases p <;> simp only [AV.one, Bool.false_eq_true] at ho <;> simp only [AV.size]

theorem relAll_sizes {sz : Nat} : ∀ {es : List AV} {cs : List Value}, relAll X w ρ es cs → sizes es sz → ∀ i, (h : i < es.length) →
    AV.rel X w ρ es[i] ((cs.drop (i * sz)).take sz)
  | [], cs, _, _, i, h => by simp at h
  | e :: es, cs, hr, hs, i, h => by
    simp only [relAll] at hr
    obtain ⟨a, b, rfl, h1, h2⟩ := hr
    have hl := rel_len _ _ _ h1
    have h0 := (hs e (by simp)).1
    cases i with
    | zero =>
      have : ((a ++ b).drop (0 * sz)).take sz = a := by simp [hl, h0]
      rw [this]; exact h1
    | succ i =>
      have := relAll_sizes h2 (fun e he => hs e (by simp [he])) i (by simpa using h)
      rw [List.drop_append, List.drop_eq_nil_of_le (by rw [hl, h0, Nat.succ_mul]; omega), List.nil_append, hl, h0,
        show (i + 1) * sz - sz = i * sz from by rw [Nat.succ_mul]; omega]
      exact this

theorem relAll_sizes_len {sz : Nat} : ∀ {es : List AV} {cs : List Value}, relAll X w ρ es cs → sizes es sz → cs.length = es.length * sz
  | [], cs, h, _ => by simp only [relAll] at h; simp [h]
  | e :: es, cs, hr, hs => by
    simp only [relAll] at hr
    obtain ⟨a, b, rfl, h1, h2⟩ := hr
    have hl := rel_len _ _ _ h1
    have h0 := (hs e (by simp)).1
    have := relAll_sizes_len h2 (fun e he => hs e (by simp [he]))
    simp [hl, h0, this, Nat.succ_mul]; omega

theorem rowCell_rel : ∀ {ps : List AV} {v : AV} {i : Nat} {cs : List Value}, relAll X w ρ ps cs → rowCell ps i = some v → ∃ x, cs[i]? = some x ∧ AV.relV X w ρ v x
  | [], v, i, cs, h, e => by simp [rowCell] at e
  | p :: ps, v, i, cs, h, e => by
    simp only [relAll] at h
    obtain ⟨a, b, rfl, h1, h2⟩ := h
    have hl := rel_len _ _ _ h1
    unfold rowCell at e
    split at e
    · rename_i heq; cases heq
    · rename_i heq; cases heq
      rename_i i _ _ n k l
      obtain ⟨hi, e2⟩ := oguard_some e
      have e2 := Option.some.inj e2
      subst e2
      simp only [AV.rel] at h1
      obtain ⟨rfl, rfl⟩ := h1
      refine ⟨.int k (l.getD i 0), ?_, ?_⟩
      · rw [List.getElem?_append_left (by simpa using hi)]
        simp [hi]
      · simp [AV.relV, AV.rel, flat]
    · rename_i heq; cases heq
      rename_i i _ _ sz es
      obtain ⟨⟨rfl, hi⟩, e2⟩ := oguard_some e
      have e2 := Option.some.inj e2
      subst e2
      simp only [AV.rel] at h1
      have := relAll_sizes h1.1 h1.2 i hi
      have ho := (h1.2 es[i] (by simp)).2 rfl
      have hle := relAll_sizes_len h1.1 h1.2
      simp only [Nat.mul_one] at this hle
      have hx : (a.drop i).take 1 = [a[i]'(by omega)] := by
        rw [List.drop_eq_getElem_cons (by omega)]; rfl
      rw [hx] at this
      refine ⟨a[i]'(by omega), ?_, ?_⟩
      · rw [List.getElem?_append_left (by omega)]; simp
      · rw [List.getD_eq_getElem?_getD, List.getElem?_eq_getElem hi, Option.getD_some]
        exact relV_of_rel ho (rel_nil_lift this)
    · rename_i heq; cases heq
      split at e
      · rename_i ho
        have e := Option.some.inj e
        subst e
        rw [one_size ho] at hl
        obtain ⟨x, rfl⟩ := List.length_eq_one_iff.1 hl
        exact ⟨x, by simp, relV_of_rel ho h1⟩
      · cases e
    · rename_i heq; cases heq
      split at e
      · rename_i ho
        obtain ⟨x, hx, hv⟩ := rowCell_rel h2 e
        rw [one_size ho] at hl
        obtain ⟨y, rfl⟩ := List.length_eq_one_iff.1 hl
        exact ⟨x, by simpa using hx, hv⟩
      · cases e

def mkAgg : List AV → AV
  | [.arr n k l] => .arr n k l
  | ps => .agg ps

theorem mkAgg_rel {ps : List AV} {cs : List Value} (h : relAll X w ρ ps cs) : AV.relV X w ρ (mkAgg ps) (.agg cs.toArray) := by
  unfold mkAgg
  split
  · rw [relAll_one] at h
    simp only [AV.rel] at h
    simp only [AV.relV]
    exact ⟨by rw [h.1], h.2⟩
  · simp only [AV.relV]
    exact ⟨_, rfl, by simpa using h⟩

def rowAgg (ints : Bool) (ps : List AV) (i s : Nat) : Option AV :=
  if ints then
    match ps with
    | .arr n k l :: _ => oguard (i + s ≤ n) (some (.arr s k ((l.drop i).take s)))
    | _ => none
  else (rowDrop ps i).bind fun qs => (rowTake qs s).map mkAgg

theorem rowAgg_rel {ints : Bool} {ps : List AV} {v : AV} {i s : Nat} {cs : List Value} (h : relAll X w ρ ps cs) (e : rowAgg ints ps i s = some v) :
    AV.relV X w ρ v (.agg ((cs.drop i).take s).toArray) ∧ i + s ≤ cs.length ∨ (s = 0 ∧ AV.relV X w ρ v (.agg #[])) := by
  unfold rowAgg at e
  split at e
  · split at e
    · rename_i n k l qs
      obtain ⟨hi, e⟩ := oguard_some e
      cases e
      simp only [relAll] at h
      obtain ⟨a, b, rfl, h1, h2⟩ := h
      simp only [AV.rel] at h1
      obtain ⟨rfl, rfl⟩ := h1
      refine .inl ⟨?_, by simp; omega⟩
      simp only [AV.relV]
      refine ⟨?_, by simp; omega⟩
      rw [List.drop_append_of_le_length (by simp; omega), List.take_append_of_le_length (by simp; omega)]
      simp
    · cases e
  · obtain ⟨qs, hq, e⟩ := Option.bind_eq_some_iff.1 e
    obtain ⟨rs, hr, rfl⟩ := Option.map_eq_some_iff.1 e
    have h1 := rowDrop_rel h hq
    have h2 := rowTake_rel h1 hr
    rcases Nat.eq_zero_or_pos s with rfl | hs
    · exact .inr ⟨rfl, by have := mkAgg_rel h2.1; simpa using this⟩
    · exact .inl ⟨mkAgg_rel h2.1, by have := h2.2; simp at this; omega⟩

def rowSet : List AV → Nat → AV → Option (List AV)
  | [], _, _ => none
  | .arr n k l :: ps, i, x =>
    match x with
    | .v (.int k' m) => oguard (k = k' ∧ i < n) (some (.arr n k (l.set i m) :: ps))
    | _ => none
  | p :: ps, 0, x => oguard (p.one = true ∧ x.one = true ∧ (match x with | .any => false | _ => true) = true) (some (x :: ps))
  | p :: ps, i + 1, x => if p.one then (rowSet ps i x).map (p :: ·) else none

theorem rel_of_relV {p : AV} {x : Value} (ho : p.one = true) (hn : p ≠ .any) (h : AV.relV X w ρ p x) : AV.rel X w ρ p [x] := by
  cases p <;> simp only [AV.one, Bool.false_eq_true] at ho <;> first | exact absurd rfl hn | (simp only [AV.relV] at h; exact h)

theorem rel_flat {p : AV} {x : Value} (ho : p.one = true) (h : AV.rel X w ρ p [x]) : flat x = true := by
  cases p <;> simp only [AV.one, Bool.false_eq_true] at ho <;> simp only [AV.rel, roAt] at h
  · obtain ⟨h1, h2⟩ := h; cases h1; exact h2
  · obtain ⟨r, _, h⟩ := h; cases h; rfl
  · rcases h with ⟨r, o, _, h, _⟩ | ⟨_, h, _⟩ <;> cases h <;> rfl
  · rcases h with ⟨r, _, h, _⟩ | ⟨_, _, h⟩ <;> cases h <;> rfl
  · obtain ⟨vs, _, h, _⟩ := h
    rcases h with ⟨r, _, h, _⟩ | ⟨_, _, h⟩ <;> cases h <;> rfl
  · obtain ⟨r, vs, h, _⟩ := h; cases h; rfl
  · obtain ⟨r, vs, h, _⟩ := h; cases h; rfl
  · obtain ⟨y, h, h2⟩ := h; cases h; exact h2

theorem rowSet_rel : ∀ {ps qs : List AV} {x : AV} {v : Value} {i : Nat} {cs : List Value}, relAll X w ρ ps cs → AV.relV X w ρ x v → rowSet ps i x = some qs →
    i < cs.length ∧ flat v = true ∧ relAll X w ρ qs (cs.set i v)
  | [], qs, x, v, i, cs, h, hv, e => by simp [rowSet] at e
  | p :: ps, qs, x, v, i, cs, h, hv, e => by
    simp only [relAll] at h
    obtain ⟨a, b, rfl, h1, h2⟩ := h
    have hl := rel_len _ _ _ h1
    unfold rowSet at e
    split at e
    · rename_i heq; cases heq
    · rename_i heq; cases heq
      split at e
      · obtain ⟨⟨rfl, hi⟩, e2⟩ := oguard_some e
        have e2 := Option.some.inj e2
        subst e2
        simp only [AV.rel] at h1
        obtain ⟨rfl, rfl⟩ := h1
        simp only [AV.relV, AV.rel, List.cons.injEq, and_true] at hv
        obtain ⟨rfl, hv⟩ := hv
        refine ⟨by simp; omega, hv, ?_⟩
        rw [List.set_append_left _ _ (by simpa using hi)]
        refine relAll_mk rfl ?_ h2
        simp only [AV.rel]
        simp [List.map_set]
      · cases e
    · rename_i heq; cases heq
      obtain ⟨⟨ho, hx, hna⟩, e2⟩ := oguard_some e
      have e2 := Option.some.inj e2
      subst e2
      rw [one_size ho] at hl
      obtain ⟨y, rfl⟩ := List.length_eq_one_iff.1 hl
      have hr := rel_of_relV hx (by rintro rfl; simp at hna) hv
      exact ⟨by simp, rel_flat hx hr, relAll_mk (a := [v]) (b := b) (by simp) hr h2⟩
    · rename_i heq; cases heq
      split at e
      · rename_i ho
        obtain ⟨rs, hr, rfl⟩ := Option.map_eq_some_iff.1 e
        obtain ⟨h3, h4, h5⟩ := rowSet_rel h2 hv hr
        rw [one_size ho] at hl
        obtain ⟨y, rfl⟩ := List.length_eq_one_iff.1 hl
        exact ⟨by simp; omega, h4, relAll_mk (a := [y]) (by simp) h1 h5⟩
      · cases e

def AV.parts : AV → List AV
  | .agg ps => ps
  | x => [x]

def headSize : List AV → Nat
  | [] => 0
  | p :: _ => p.size

def AV.isAggV : AV → Bool
  | .agg _ | .arr .. => true
  | _ => false

def rowPut (ps : List AV) (i : Nat) (x : AV) : Option (List AV) :=
  if x.isAggV then
    if i = 0 ∧ headSize ps = x.size ∧ ps ≠ [] then some (x.parts ++ ps.tail)
    else
      match ps, x with
      | .arr n k l :: rest, .arr s k' l' => oguard (k = k' ∧ i + s ≤ n) (some (.arr n k (l.take i ++ l' ++ l.drop (i + s)) :: rest))
      | _, _ => (rowTake ps i).bind fun a => (rowDrop ps (i + x.size)).map fun b => a ++ x.parts ++ b
  else none

theorem parts_rel {x : AV} {v : Value} (ha : x.isAggV = true) (h : AV.relV X w ρ x v) : ∃ cs, v = .agg cs ∧ relAll X w ρ x.parts cs.toList ∧ cs.size = x.size := by
  cases x <;> simp only [AV.isAggV, Bool.false_eq_true] at ha
  · simp only [AV.relV] at h
    refine ⟨_, h.1, ?_, ?_⟩
    · simp only [AV.parts, relAll_one, AV.rel]; exact ⟨by simp, h.2⟩
    · simp [AV.size, h.2]
  · simp only [AV.relV] at h
    obtain ⟨cs, rfl, h⟩ := h
    exact ⟨cs, rfl, h, by have := relAll_len _ _ _ h; simpa [AV.size] using this⟩

theorem rowPut_rel {ps qs : List AV} {x : AV} {v : Value} {i : Nat} {cs : List Value} (h : relAll X w ρ ps cs) (hv : AV.relV X w ρ x v) (e : rowPut ps i x = some qs) :
    ∃ vs, v = .agg vs ∧ vs.size = x.size ∧ (i + vs.size ≤ cs.length ∨ vs.size = 0) ∧ relAll X w ρ qs (cs.take i ++ vs.toList ++ cs.drop (i + vs.size)) := by
  unfold rowPut at e
  split at e
  · rename_i ha
    obtain ⟨vs, rfl, hp, hs⟩ := parts_rel ha hv
    refine ⟨vs, rfl, hs, ?_⟩
    split at e
    · rename_i hc
      obtain ⟨rfl, hh, hne⟩ := hc
      cases e
      cases ps with
      | nil => exact absurd rfl hne
      | cons p ps =>
        simp only [relAll] at h
        obtain ⟨a, b, rfl, h1, h2⟩ := h
        have hl := rel_len _ _ _ h1
        simp only [headSize] at hh
        refine ⟨.inl (by simp; omega), ?_⟩
        simp only [List.take_zero, List.nil_append, Nat.zero_add, List.tail_cons]
        rw [relAll_append]
        refine ⟨_, _, rfl, hp, ?_⟩
        rw [hs, ← hh, ← hl]
        simpa using h2
    · split at e
      · obtain ⟨⟨rfl, hi⟩, e2⟩ := oguard_some e
        have e2 := Option.some.inj e2
        subst e2
        simp only [relAll] at h
        obtain ⟨a, b, rfl, h1, h2⟩ := h
        simp only [AV.rel] at h1
        obtain ⟨rfl, rfl⟩ := h1
        simp only [AV.size] at hs
        simp only [AV.parts, relAll_one, AV.rel] at hp
        refine ⟨.inl (by simp; omega), ?_⟩
        rw [List.take_append_of_le_length (by simp; omega), List.drop_append_of_le_length (by simp; omega), hp.1, hs]
        rename_i _ k l rest s l' _
        refine relAll_mk (a := ((l.take i ++ l' ++ l.drop (i + s)).map (Value.int k))) (by simp) ?_ h2
        simp only [AV.rel]
        refine ⟨by simp, ?_⟩
        simp [hp.2]; omega
      · obtain ⟨ra, hra, e⟩ := Option.bind_eq_some_iff.1 e
        obtain ⟨rb, hrb, rfl⟩ := Option.map_eq_some_iff.1 e
        have h1 := rowTake_rel h hra
        have h2 := rowDrop_rel h hrb
        rw [hs]
        refine ⟨?_, ?_⟩
        · rcases Nat.eq_zero_or_pos x.size with h0 | h0
          · exact .inr h0
          · left
            rcases Nat.lt_or_ge cs.length (i + x.size) with hlt | hge
            · exfalso
              have := rowDrop_le h hrb
              omega
            · exact hge
        · rw [relAll_append, ]
          refine ⟨_, _, rfl, ?_, h2⟩
          rw [relAll_append]
          exact ⟨_, _, rfl, h1.1, hp⟩
  · cases e
def rowSetAt (ps : List AV) (off : Nat) (x : AV) : Option (List AV) := (rowTake ps off).bind fun a => (rowDrop ps off).bind fun b => (rowSet b 0 x).map fun c => a ++ c
theorem rowSetAt_rel {ps qs : List AV} {x : AV} {v : Value} {i : Nat} {cs : List Value} (h : relAll X w ρ ps cs) (hx : AV.relV X w ρ x v) (e : rowSetAt ps i x = some qs) :
    i < cs.length ∧ flat v = true ∧ relAll X w ρ qs (cs.set i v) := by
  unfold rowSetAt at e
  obtain ⟨a, ha, e⟩ := Option.bind_eq_some_iff.1 e
  obtain ⟨b, hb, e⟩ := Option.bind_eq_some_iff.1 e
  obtain ⟨c, hc, e⟩ := Option.map_eq_some_iff.1 e
  subst e
  obtain ⟨h1, h2⟩ := rowTake_rel h ha
  have h3 := rowDrop_rel h hb
  obtain ⟨h4, h5, h6⟩ := rowSet_rel h3 hx hc
  have hlt : i < cs.length := by rw [List.length_drop] at h4; omega
  refine ⟨hlt, h5, ?_⟩
  rw [relAll_append]
  refine ⟨cs.take i, (cs.drop i).set 0 v, ?_, h1, h6⟩
  rw [List.set_eq_take_append_cons_drop, if_pos hlt, List.drop_eq_getElem_cons hlt, List.set_cons_zero]
def rowOr (ps : List AV) (off : Nat) (x : AV) : Option (List AV) := (rowSet ps off x).or (rowSetAt ps off x)
theorem rowOr_rel {ps qs : List AV} {x : AV} {v : Value} {i : Nat} {cs : List Value} (h : relAll X w ρ ps cs) (hx : AV.relV X w ρ x v) (e : rowOr ps i x = some qs) :
    i < cs.length ∧ flat v = true ∧ relAll X w ρ qs (cs.set i v) := by
  unfold rowOr at e
  cases h1 : rowSet ps i x with
  | some a => rw [h1] at e; cases e; exact rowSet_rel h hx h1
  | none => rw [h1] at e; exact rowSetAt_rel h hx e
end Go.Ax

namespace Go.Ax

abbrev Blk := Option (List AV)
def Env := Nat → AV

def get (e : Env) (i : Nat) : AV := e i

def put (e : Env) (d : Option Nat) (v : AV) : Env :=
  match d with
  | some d => fun i => if d = i then v else e i
  | none => e

def none0 : Env := fun _ => .any

theorem get_put (e : Env) (d i : Nat) (v : AV) : get (put e (some d) v) i = if d = i then v else get e i := rfl
theorem put_none (e : Env) (v : AV) : put e none v = e := rfl
theorem get_none0 (i : Nat) : get none0 i = .any := rfl

theorem put_comm (e : Env) {d d' : Option Nat} (v v' : AV) (h : ∀ x, d = some x → d' ≠ some x) : put (put e d v) d' v' = put (put e d' v') d v := by
  cases d with
  | none => rfl
  | some d =>
    cases d' with
    | none => rfl
    | some d' =>
      have hne : d ≠ d' := fun he => h d rfl (he ▸ rfl)
      funext i
      simp only [put]
      by_cases h1 : d = i <;> by_cases h2 : d' = i <;> simp [h1, h2]
      exact absurd (h1.trans h2.symm) hne

structure St where
  e : Env
  h : List Blk

def row (h : List Blk) (b : Nat) : Option (List AV) :=
  match h[b]? with
  | some (some ps) => some ps
  | _ => none

section tables
variable (P : Program)
def szT (t : TypeId) : Option Nat := (P.info? t).map (·.size)
def bytesT (t : TypeId) : Option Nat := (P.info? t).map (·.bytes)
def aggT (t : TypeId) : Option Bool := (P.underlying t).map fun | .struct _ | .array .. => true | _ => false
def intsT (t : TypeId) : Bool :=
  match P.underlying t with
  | some (.array _ e) => (match P.underlying e with | some (.int _) => true | _ => false)
  | _ => false
def fieldT (s : TypeId) (f : Nat) : Option (Nat × Nat × Bool × Bool) :=
  match P.underlying s with
  | some (.struct fs) =>
    match fs[f]? with
    | some x =>
      match szT P x.type, aggT P x.type with
      | some n, some g => some (x.offset, n, g, intsT P x.type)
      | _, _ => none
    | none => none
  | _ => none
inductive Ix where
  | arr (len sz : Nat) (g ints : Bool)
  | sl (sz : Nat) (g ints : Bool)
  | str
  | parr (len sz : Nat)
  | no
def elemT (t : TypeId) : Ix :=
  match P.underlying t with
  | some (.array n e) =>
    match szT P e, aggT P e with
    | some s, some g => .arr n s g (intsT P e)
    | _, _ => .no
  | some (.slice e) =>
    match szT P e, aggT P e with
    | some s, some g => .sl s g (intsT P e)
    | _, _ => .no
  | some .string => .str
  | some (.pointer a) =>
    match P.underlying a with
    | some (.array n e) => match szT P e with | some s => .parr n s | none => .no
    | _ => .no
  | _ => .no
inductive Kd where
  | int (k : IntKind) | bool | string | pointer | slice (bytes : Bool) | struct | array | func | map | no
  deriving DecidableEq
def kindT (t : TypeId) : Kd :=
  match P.underlying t with
  | some (.int k) => .int k
  | some .bool => .bool
  | some .string => .string
  | some (.pointer _) => .pointer
  | some (.slice e) => .slice (match P.underlying e with | some (.int .u8) => true | _ => false)
  | some (.struct _) => .struct
  | some (.array _ _) => .array
  | some (.func ..) => .func
  | some (.map ..) => .map
  | _ => .no
end tables

def bytesOf (l : List Int) : ByteArray := ⟨(l.map fun n => UInt8.ofNat n.toNat).toArray⟩
def strOf (s : ByteArray) : List Int := s.data.toList.map fun b => (b.toNat : Int)

def constAV : Value → AV
  | .agg _ | .tuple _ => .any
  | x => .v x

def ev (e : Env) : Operand → AV
  | .tmp t => get e t
  | .const v => constAV v
  | .func f => .fn (.func f) [] []
  | .global _ => .any

def isNilV : Value → Bool
  | .pointer none | .slice none _ _ | .nilFunc | .nilIface | .map none => true
  | _ => false

def intBin (op : BinOp) (k : IntKind) (a b : Int) : Option AV :=
  match op with
  | .add => some (.v (.int k (k.wrap (a + b))))
  | .sub => some (.v (.int k (k.wrap (a - b))))
  | .mul => some (.v (.int k (k.wrap (a * b))))
  | .quo => oguard (b ≠ 0) (some (.v (.int k (k.wrap (a.tdiv b)))))
  | .rem => oguard (b ≠ 0) (some (.v (.int k (a.tmod b))))
  | .and => some (.v (.int k (k.wrap (BitVec.ofInt k.bits a &&& BitVec.ofInt k.bits b).toNat)))
  | .or => some (.v (.int k (k.wrap (BitVec.ofInt k.bits a ||| BitVec.ofInt k.bits b).toNat)))
  | .xor => some (.v (.int k (k.wrap (BitVec.ofInt k.bits a ^^^ BitVec.ofInt k.bits b).toNat)))
  | .andNot => some (.v (.int k (k.wrap (BitVec.ofInt k.bits a &&& ~~~ BitVec.ofInt k.bits b).toNat)))
  | .eql => some (.v (.bool (a == b)))
  | .neq => some (.v (.bool (a != b)))
  | .lss => some (.v (.bool (decide (a < b))))
  | .leq => some (.v (.bool (decide (a ≤ b))))
  | .gtr => some (.v (.bool (decide (a > b))))
  | .geq => some (.v (.bool (decide (a ≥ b))))
  | _ => none

def shl (k : IntKind) (a b : Int) : Int := k.wrap (a * 2 ^ min b.toNat k.bits)
def shr (k : IntKind) (a b : Int) : Int := a.fdiv (2 ^ min b.toNat k.bits)

def eqArrT (P : Program) (t : TypeId) : Option (Nat × IntKind) :=
  match P.underlying t with
  | some (.array n e) =>
    match P.underlying e, szT P e with
    | some (.int k), some 1 => if P.eqGuardType P.depth t = false then some (n, k) else none
    | _, _ => none
  | _ => none

def binA (P : Program) (op : BinOp) (t : TypeId) (x y : AV) : Option AV :=
  match op, x, y with
  | .shl, .v (.int k a), .v (.int _ b) => oguard (0 ≤ b) (some (.v (.int k (shl k a b))))
  | .shr, .v (.int k a), .v (.int _ b) => oguard (0 ≤ b) (some (.v (.int k (shr k a b))))
  | op, .v (.int k a), .v (.int k' b) => if k = k' then intBin op k a b else none
  | .eql, .v (.string a), .v (.string b) => some (.v (.bool (a.toList == b.toList)))
  | .neq, .v (.string a), .v (.string b) => some (.v (.bool (!(a.toList == b.toList))))
  | .eql, .v (.bool a), .v (.bool b) => if kindT P t = .bool then some (.v (.bool (a == b))) else none
  | .neq, .v (.bool a), .v (.bool b) => if kindT P t = .bool then some (.v (.bool (!(a == b)))) else none
  | .eql, .v (.pointer none), .v (.pointer none) => if kindT P t = .pointer then some (.v (.bool true)) else none
  | .neq, .v (.pointer none), .v (.pointer none) => if kindT P t = .pointer then some (.v (.bool false)) else none
  | .eql, .ptr _ _ _, .v (.pointer none) => if kindT P t = .pointer then some (.v (.bool false)) else none
  | .neq, .ptr _ _ _, .v (.pointer none) => if kindT P t = .pointer then some (.v (.bool true)) else none
  | .eql, .arr n k l, .arr m k' l' => if eqArrT P t = some (n, k) ∧ n = m ∧ k = k' then some (.v (.bool (l == l'))) else none
  | .neq, .arr n k l, .arr m k' l' => if eqArrT P t = some (n, k) ∧ n = m ∧ k = k' then some (.v (.bool (!(l == l')))) else none
  | _, _, _ => none

def loadCell (h : List Blk) : AV → Option AV
  | .ptr b base i => (row h b).bind fun ps => (rowDrop ps base).bind fun qs => rowCell qs i
  | .rop x => if x.one then some x else none
  | _ => none

def loadAgg (ints : Bool) (s : Nat) (h : List Blk) : AV → Option AV
  | .ptr b base i => (row h b).bind fun ps => (rowDrop ps base).bind fun qs => rowAgg ints qs i s
  | .rop x => if x.isAggV ∧ x.size = s then some x else none
  | _ => none

def intsOf (h : List Blk) : AV → Option (IntKind × List Int)
  | .sl b base sz off len _ =>
    if sz = 1 then
      (row h b).bind fun ps => (rowDrop ps base).bind fun
        | .arr n k l :: _ => oguard (off + len ≤ n) (some (k, (l.drop off).take len))
        | _ => none
    else none
  | .roI k l => some (k, l)
  | .v (.slice none 0 0) => some (.u8, [])
  | .v (.string s) => some (.u8, strOf s)
  | _ => none

def lenA : AV → Option Nat
  | .sl _ _ _ _ len _ => some len
  | .roI _ l => some l.length
  | .roL _ es => some es.length
  | .v (.slice none 0 0) => some 0
  | _ => none

def indexAddrA (P : Program) (t : TypeId) (x : AV) (n : Int) : Option AV :=
  match elemT P t, x with
  | .arr len sz _ _, .ptr b base i => oguard (0 ≤ n ∧ n < len) (some (.ptr b base (i + n.toNat * sz)))
  | .arr len sz _ _, .rop (.arr m k l) => oguard (sz = 1 ∧ len = m ∧ 0 ≤ n ∧ n < len) (some (.rop (.v (.int k (l.getD n.toNat 0)))))
  | .sl sz _ _, .sl b base sz' off len _ => oguard (sz = sz' ∧ 0 ≤ n ∧ n < len) (some (.ptr b base (off + n.toNat * sz)))
  | .sl sz _ _, .roI k l => oguard (sz = 1 ∧ 0 ≤ n ∧ n < l.length) (some (.rop (.v (.int k (l.getD n.toNat 0)))))
  | .sl sz _ _, .roL sz' es => oguard (sz = sz' ∧ sz ≠ 0 ∧ 0 ≤ n ∧ n < es.length) (some (.rop (es.getD n.toNat .any)))
  | _, _ => none

def indexA (P : Program) (t : TypeId) (x : AV) (n : Int) : Option AV :=
  match elemT P t, x with
  | .arr len sz g _, .arr m k l => oguard (sz = 1 ∧ g = false ∧ len = m ∧ 0 ≤ n ∧ n < len) (some (.v (.int k (l.getD n.toNat 0))))
  | .str, .v (.string s) => oguard (0 ≤ n ∧ n < s.size) (some (.v (.int .u8 ((s.data.toList.getD n.toNat 0).toNat))))
  | .arr len sz g _, .agg ps => oguard (sz = 1 ∧ g = false ∧ 0 ≤ n ∧ n < len) (rowCell ps n.toNat)
  | _, _ => none

def AV.solid : AV → Bool
  | .any => false
  | x => x.one

def fieldAddrA (P : Program) (s : TypeId) (x : AV) (f : Nat) : Option AV :=
  match fieldT P s f, x with
  | some (off, n, _, _), .ptr b base i => if n = 0 then none else some (.ptr b (base + i + off) 0)
  | some (off, n, g, ints), .rop (.agg ps) =>
    if n = 0 then none else
    if g then (rowAgg ints ps off n).bind fun y => if y.isAggV then some (.rop y) else none
    else (rowDrop ps off).bind fun qs => (rowCell qs 0).bind fun y => if y.solid then some (.rop y) else none
  | _, _ => none

def fieldA (P : Program) (s : TypeId) (x : AV) (f : Nat) : Option AV :=
  match fieldT P s f with
  | some (off, n, g, _) =>
    if g then (rowDrop x.parts off).bind fun qs => (rowTake qs n).map mkAgg
    else (rowDrop x.parts off).bind fun qs => rowCell qs 0
  | none => none

def bndA (o : Option AV) (d most : Nat) (k : Nat → Option AV) : Option AV :=
  match o with
  | none => k d
  | some (.v (.int _ n)) => oguard (0 ≤ n ∧ n ≤ most) (k n.toNat)
  | _ => none

def boundsA (len cap : Nat) (lo hi mx : Option AV) (k : Nat → Nat → Nat → Option AV) : Option AV :=
  match mx, hi with
  | some _, none => none
  | _, _ => bndA mx cap cap fun m => bndA hi len m fun h => bndA lo 0 h fun l => k l h m

def sliceA (P : Program) (hp : List Blk) (t : TypeId) (x : AV) (lo hi mx : Option AV) : Option AV :=
  match elemT P t, x with
  | .str, .v (.string s) => if mx.isSome then none else boundsA s.size s.size lo hi none fun l h _ => some (.v (.string (s.extract l h)))
  | .arr n sz _ _, .ptr b base i => (row hp b).bind fun ps => oguard (base + i + n * sz ≤ psize ps) (boundsA n n lo hi mx fun l h m => some (.sl b base sz (i + l * sz) (h - l) (m - l)))
  | .arr n sz _ _, .rop (.arr n' k a) => oguard (sz = 1 ∧ n = n') (boundsA n n lo hi mx fun l h _ => some (.roI k ((a.drop l).take (h - l))))
  | .sl sz _ _, .sl b base sz' off len cap => oguard (sz = sz') (boundsA len cap lo hi mx fun l h m => some (.sl b base sz (off + l * sz) (h - l) (m - l)))
  | .sl sz _ _, .roI k a => oguard (sz = 1) (boundsA a.length a.length lo hi mx fun l h _ => some (.roI k ((a.drop l).take (h - l))))
  | _, _ => none

end Go.Ax

namespace Go.Ax

def live (h : List Blk) (b : Nat) : Prop := ∃ ps, h[b]? = some (some ps)
def own (ρ : List (Option Nat)) (h : List Blk) (r : Nat) : Prop := ∃ b, ρ[b]? = some (some r) ∧ live h b

def BRel (X : Nat → Prop) (w : World) (ρ : List (Option Nat)) (o : Option (Option Nat)) (ps : List AV) : Prop :=
  match o with
  | some (some r) => ∃ c e fz, w.heap[r]? = some (.cells c e fz) ∧ (fz.1 = fz.2 ∨ c.size ≤ fz.1) ∧ ∃ cs post, c.toList = cs ++ post ∧ relAll X w ρ ps cs
  | some none => relAll X w ρ ps []
  | none => False

structure HRel (X : Nat → Prop) (ρ : List (Option Nat)) (h : List Blk) (w : World) : Prop where
  len : ρ.length = h.length
  blk : ∀ (b : Nat) (ps : List AV), h[b]? = some (some ps) → BRel X w ρ ρ[b]? ps
  inj : ∀ (b b' r : Nat), ρ[b]? = some (some r) → ρ[b']? = some (some r) → live h b → live h b' → b = b'

theorem row_some {h : List Blk} {b : Nat} {ps : List AV} (e : row h b = some ps) : h[b]? = some (some ps) := by
  unfold row at e
  split at e
  · cases e; assumption
  · cases e

theorem BRel.keep {X X' : Nat → Prop} {w w' : World} {ρ ρ' : List (Option Nat)} {o : Option (Option Nat)} {ps : List AV} (h : BRel X w ρ o ps) (k : Keep X w w')
    (hx : ∀ r, r < w.heap.size → X' r → X r) (hr : ∀ (b : Nat) o, ρ[b]? = some o → ρ'[b]? = some o)
    (hs : ∀ r, o = some (some r) → w'.heap[r]? = w.heap[r]?) : BRel X' w' ρ' o ps := by
  unfold BRel at *
  split
  · rename_i r
    obtain ⟨c, e, fz, h1, h2, cs, post, h3, h4⟩ := h
    exact ⟨c, e, fz, (hs _ rfl).trans h1, h2, cs, post, h3, relAll_keep k hx _ _ _ _ hr h4⟩
  · exact relAll_keep k hx _ _ _ _ hr h
  · exact h

theorem BRel.lt {X : Nat → Prop} {w : World} {ρ : List (Option Nat)} {r : Nat} {ps : List AV} (h : BRel X w ρ (some (some r)) ps) : r < w.heap.size := by
  obtain ⟨c, e, fz, h, _⟩ := h
  rcases Nat.lt_or_ge r w.heap.size with h' | h'
  · exact h'
  · simp [Array.getElem?_eq_none h'] at h

theorem HRel.own_lt {X : Nat → Prop} {ρ : List (Option Nat)} {h : List Blk} {w : World} (hh : HRel X ρ h w) {r : Nat} (ho : own ρ h r) : r < w.heap.size := by
  obtain ⟨b, hb, ps, hp⟩ := ho
  have := hh.blk b ps hp
  rw [hb] at this
  exact this.lt

structure Frame (F : Nat → Prop) (w w' : World) : Prop where
  size : w.heap.size ≤ w'.heap.size
  same : ∀ r, r < w.heap.size → ¬ F r → w'.heap[r]? = w.heap[r]?
  room : ∀ r n, room w r n → room w' r n
  os : w'.os = w.os
  out : w'.output = w.output
  tape : w'.tape = w.tape

theorem Frame.refl {F : Nat → Prop} {w : World} : Frame F w w := ⟨Nat.le_refl _, fun _ _ _ => rfl, fun _ _ h => h, rfl, rfl, rfl⟩

theorem Frame.trans {F G : Nat → Prop} {w w1 w2 : World} (h : Frame F w w1) (k : Frame G w1 w2) (hg : ∀ r, r < w.heap.size → G r → F r) : Frame F w w2 :=
  ⟨Nat.le_trans h.size k.size,
   fun r hr hf => (k.same r (Nat.lt_of_lt_of_le hr h.size) (fun g => hf (hg r hr g))).trans (h.same r hr hf),
   fun r n hr => k.room r n (h.room r n hr), k.os.trans h.os, k.out.trans h.out, k.tape.trans h.tape⟩

theorem Frame.keep {X : Nat → Prop} {w w' : World} (h : Frame X w w') : Keep X w w' := ⟨h.same, h.room⟩

theorem Frame.mono {F G : Nat → Prop} {w w' : World} (h : Frame F w w') (hg : ∀ r, F r → G r) : Frame G w w' :=
  ⟨h.size, fun r hr hf => h.same r hr (fun g => hf (hg r g)), h.room, h.os, h.out, h.tape⟩

theorem Frame.drew {F : Nat → Prop} {w : World} : Frame F w w.drew := ⟨Nat.le_refl _, fun _ _ _ => rfl, fun _ _ h => h, rfl, rfl, rfl⟩

theorem heap_alloc_old (w : World) (o : Obj) (r : Nat) (h : r < w.heap.size) : (w.alloc o).heap[r]? = w.heap[r]? := by
  show (w.heap.push o)[r]? = _
  rw [Array.getElem?_push, if_neg (by omega)]

theorem heap_alloc_new (w : World) (o : Obj) : (w.alloc o).heap[w.heap.size]? = some o := by
  show (w.heap.push o)[w.heap.size]? = some o
  simp

theorem Frame.alloc {F : Nat → Prop} {w : World} {o : Obj} : Frame F w (w.alloc o) := by
  refine ⟨by simp, fun r hr _ => heap_alloc_old w o r hr, ?_, rfl, rfl, rfl⟩
  rintro r n ⟨c, e, fz, h, hn⟩
  exact ⟨c, e, fz, (heap_alloc_old w o r (room.lt ⟨c, e, fz, h, hn⟩)).trans h, hn⟩

def setRow (w : World) (r : Nat) (c : Array Value) : World :=
  { w with heap := w.heap.modify r fun | .cells _ e f => .cells c e f | o => o }

theorem setRow_other (w : World) (r : Nat) (c : Array Value) (r' : Nat) (h : r' ≠ r) : (setRow w r c).heap[r']? = w.heap[r']? := by
  simp [setRow, Array.getElem?_modify, Ne.symm h]

theorem setRow_same {w : World} {r : Nat} {c c0 : Array Value} {e : TypeId} {fz : Nat × Nat} (h : w.heap[r]? = some (.cells c0 e fz)) :
    (setRow w r c).heap[r]? = some (.cells c e fz) := by
  simp [setRow, Array.getElem?_modify, h]

theorem setRow_size (w : World) (r : Nat) (c : Array Value) : (setRow w r c).heap.size = w.heap.size := by simp [setRow]

theorem Frame.setRow {F : Nat → Prop} {w : World} {r : Nat} {c c0 : Array Value} {e : TypeId} {fz : Nat × Nat} (h : w.heap[r]? = some (.cells c0 e fz))
    (hs : c.size = c0.size) (hf : F r) : Frame F w (setRow w r c) := by
  refine ⟨by rw [setRow_size]; exact Nat.le_refl _, ?_, ?_, rfl, rfl, rfl⟩
  · intro r' _ hn
    exact setRow_other w r c r' (fun e => hn (e ▸ hf))
  · rintro r' n ⟨c', e', fz', h', hn⟩
    by_cases hr : r' = r
    · subst hr
      rw [h] at h'
      cases h'
      exact ⟨c, e, fz, setRow_same h, by omega⟩
    · exact ⟨c', e', fz', (setRow_other w r c r' hr).trans h', hn⟩

theorem live_set {h : List Blk} {b : Nat} {ps qs : List AV} (hb : h[b]? = some (some ps)) (b' : Nat) : live (h.set b (some qs)) b' ↔ live h b' := by
  unfold live
  by_cases e : b = b'
  · subst e
    obtain ⟨hl, _⟩ := List.getElem?_eq_some_iff.1 hb
    rw [List.getElem?_set_self hl]
    exact ⟨fun _ => ⟨ps, hb⟩, fun _ => ⟨qs, rfl⟩⟩
  · simp [List.getElem?_set_ne e]

theorem own_set {ρ : List (Option Nat)} {h : List Blk} {b : Nat} {ps qs : List AV} (hb : h[b]? = some (some ps)) (r : Nat) : own ρ (h.set b (some qs)) r ↔ own ρ h r := by
  unfold own; simp [live_set hb]

def setFz (w : World) (r : Nat) (z : Nat × Nat) : World :=
  { w with heap := w.heap.modify r fun | .cells c e _ => .cells c e z | o => o }
theorem setFz_other (w : World) (r : Nat) (z : Nat × Nat) (r' : Nat) (h : r' ≠ r) : (setFz w r z).heap[r']? = w.heap[r']? := by
  simp [setFz, Array.getElem?_modify, Ne.symm h]
theorem setFz_same {w : World} {r : Nat} {c0 : Array Value} {e : TypeId} {fz z : Nat × Nat} (h : w.heap[r]? = some (.cells c0 e fz)) :
    (setFz w r z).heap[r]? = some (.cells c0 e z) := by
  simp [setFz, Array.getElem?_modify, h]
theorem Frame.setFz {F : Nat → Prop} {w : World} {r : Nat} {z : Nat × Nat} {c0 : Array Value} {e : TypeId} {fz : Nat × Nat} (h : w.heap[r]? = some (.cells c0 e fz))
    (hf : F r) : Frame F w (setFz w r z) := by
  refine ⟨by simp [Ax.setFz], ?_, ?_, rfl, rfl, rfl⟩
  · intro r' _ hn
    exact setFz_other w r z r' (fun e => hn (e ▸ hf))
  · rintro r' n ⟨c', e', fz', h', hn⟩
    by_cases hr : r' = r
    · subst hr
      rw [h] at h'
      cases h'
      exact ⟨c0, e, z, setFz_same h, hn⟩
    · exact ⟨c', e', fz', (setFz_other w r z r' hr).trans h', hn⟩
theorem HRel.mark {X : Nat → Prop} {ρ : List (Option Nat)} {h : List Blk} {w : World} (hh : HRel X ρ h w) {b r : Nat} {ps : List AV} {z : Nat × Nat}
    (hb : h[b]? = some (some ps)) (hr : ρ[b]? = some (some r)) (hX : ∀ r, own ρ h r → X r)
    {c : Array Value} {e : TypeId} {fz : Nat × Nat} (hc : w.heap[r]? = some (.cells c e fz)) (hz : z.1 = z.2 ∨ c.size ≤ z.1) : HRel X ρ h (setFz w r z) := by
  have ho : own ρ h r := ⟨b, hr, ps, hb⟩
  have k : Keep X w (Ax.setFz w r z) := (Frame.setFz (F := X) hc (hX r ho)).keep
  refine ⟨hh.len, ?_, hh.inj⟩
  intro b' ps' hb'
  by_cases e : b = b'
  · subst e
    have h2 := hh.blk b ps' hb'
    rw [hr] at h2 ⊢
    obtain ⟨c1, e1, fz1, h5, h6, cs, post, h7, h8⟩ := h2
    rw [hc] at h5
    cases h5
    exact ⟨c, _, z, setFz_same hc, hz, cs, post, h7, relAll_keep k (fun _ _ h => h) _ _ _ _ (fun _ _ h => h) h8⟩
  · refine (hh.blk b' ps' hb').keep k (fun _ _ h => h) (fun _ _ h => h) ?_
    intro r' hr'
    refine setFz_other w r z r' ?_
    rintro rfl
    exact e (hh.inj b b' _ hr hr' ⟨ps, hb⟩ ⟨ps', hb'⟩)

theorem HRel.write {X : Nat → Prop} {ρ : List (Option Nat)} {h : List Blk} {w : World} (hh : HRel X ρ h w) {b r : Nat} {ps qs : List AV}
    (hb : h[b]? = some (some ps)) (hr : ρ[b]? = some (some r)) (hX : ∀ r, own ρ h r → X r)
    {c c' : Array Value} {e : TypeId} {fz : Nat × Nat} (hc : w.heap[r]? = some (.cells c e fz)) (hs : c'.size = c.size) (hf : fz.1 = fz.2 ∨ c.size ≤ fz.1)
    {cs post : List Value} (hl : c'.toList = cs ++ post) (hq : relAll X w ρ qs cs) : HRel X ρ (h.set b (some qs)) (setRow w r c') := by
  have ho : own ρ h r := ⟨b, hr, ps, hb⟩
  have k : Keep X w (setRow w r c') := (Frame.setRow (F := X) hc hs (hX r ho)).keep
  have hbl : b < h.length := (List.getElem?_eq_some_iff.1 hb).1
  refine ⟨by simp [hh.len], ?_, ?_⟩
  · intro b' ps' hb'
    by_cases e : b = b'
    · subst e
      simp [hbl] at hb'
      subst hb'
      rw [hr]
      exact ⟨c', _, fz, setRow_same hc, by rw [hs]; exact hf, cs, post, hl, relAll_keep k (fun _ _ h => h) _ _ _ _ (fun _ _ h => h) hq⟩
    · rw [List.getElem?_set_ne e] at hb'
      refine (hh.blk b' ps' hb').keep k (fun _ _ h => h) (fun _ _ h => h) ?_
      intro r' hr'
      refine setRow_other w r c' r' ?_
      rintro rfl
      exact e (hh.inj b b' _ hr hr' ⟨ps, hb⟩ ⟨ps', hb'⟩)
  · intro b1 b2 r' h1 h2 l1 l2
    exact hh.inj b1 b2 r' h1 h2 ((live_set hb _).1 l1) ((live_set hb _).1 l2)

theorem get_snoc_old {α : Type} {l : List α} {x : α} {b : Nat} {o : α} (h : l[b]? = some o) : (l ++ [x])[b]? = some o := by
  obtain ⟨hl, _⟩ := List.getElem?_eq_some_iff.1 h
  rw [List.getElem?_append_left hl]; exact h

theorem live_snoc {h : List Blk} {x : Blk} {b : Nat} (hb : b < h.length) : live (h ++ [x]) b ↔ live h b := by
  unfold live; rw [List.getElem?_append_left hb]

theorem own_snoc {X : Nat → Prop} {ρ : List (Option Nat)} {h : List Blk} {w : World} (hh : HRel X ρ h w) {o : Option Nat} {ps : List AV} {r : Nat}
    (ho : own (ρ ++ [o]) (h ++ [some ps]) r) : own ρ h r ∨ o = some r := by
  obtain ⟨b, hb, hl⟩ := ho
  rcases Nat.lt_or_ge b ρ.length with hlt | hge
  · rw [List.getElem?_append_left hlt] at hb
    exact .inl ⟨b, hb, (live_snoc (by rw [← hh.len]; exact hlt)).1 hl⟩
  · rw [List.getElem?_append_right hge] at hb
    rcases Nat.eq_zero_or_pos (b - ρ.length) with h0 | h0
    · rw [h0] at hb; simp at hb; exact .inr hb
    · rw [List.getElem?_eq_none (by simp; omega)] at hb; cases hb

theorem HRel.alloc {X X' : Nat → Prop} {ρ : List (Option Nat)} {h : List Blk} {w w' : World} (hh : HRel X ρ h w) {ps : List AV} {c : Array Value} {e : TypeId} {fz : Nat × Nat}
    (hfr : Frame X w w') (hnew : w'.heap[w.heap.size]? = some (.cells c e fz)) (hsame : ∀ r, r < w.heap.size → w'.heap[r]? = w.heap[r]?)
    (hX : ∀ r, r < w.heap.size → X' r → X r) (hz : fz.1 = fz.2 ∨ c.size ≤ fz.1)
    {cs post : List Value} (hc : c.toList = cs ++ post) (hp : relAll X w ρ ps cs) : HRel X' (ρ ++ [some w.heap.size]) (h ++ [some ps]) w' := by
  have k : Keep X w w' := hfr.keep
  refine ⟨by simp [hh.len], ?_, ?_⟩
  · intro b ps' hb
    rcases Nat.lt_or_ge b h.length with hlt | hge
    · rw [List.getElem?_append_left hlt] at hb
      rw [List.getElem?_append_left (by rw [hh.len]; exact hlt)]
      have h1 := hh.blk b ps' hb
      refine h1.keep k hX (fun _ _ h => get_snoc_old h) ?_
      intro r hr
      rw [hr] at h1
      exact hsame r h1.lt
    · rw [List.getElem?_append_right hge] at hb
      rcases Nat.eq_zero_or_pos (b - h.length) with h0 | h0
      · rw [h0] at hb; simp at hb; subst hb
        rw [List.getElem?_append_right (by rw [hh.len]; exact hge), hh.len, h0]
        exact ⟨c, e, fz, hnew, hz, cs, post, hc, relAll_keep k hX _ _ _ _ (fun _ _ h => get_snoc_old h) hp⟩
      · rw [List.getElem?_eq_none (by simp; omega)] at hb; cases hb
  · have hlt : ∀ b, live (h ++ [some ps]) b → b < h.length ∨ b = h.length := by
      rintro b ⟨q, hq⟩
      obtain ⟨hb, _⟩ := List.getElem?_eq_some_iff.1 hq
      simp at hb; omega
    have hat : ∀ b r, (ρ ++ [some w.heap.size])[b]? = some (some r) → live (h ++ [some ps]) b → (b < h.length ∧ own ρ h r ∧ ρ[b]? = some (some r) ∧ live h b) ∨ (b = h.length ∧ r = w.heap.size) := by
      intro b r hb hl
      rcases hlt b hl with h1 | h1
      · rw [List.getElem?_append_left (by rw [hh.len]; exact h1)] at hb
        have := (live_snoc h1).1 hl
        exact .inl ⟨h1, ⟨b, hb, this⟩, hb, this⟩
      · subst h1
        rw [← hh.len] at hb
        simp at hb
        exact .inr ⟨rfl, hb.symm⟩
    intro b b' r h1 h2 l1 l2
    rcases hat b r h1 l1 with ⟨_, o1, r1, m1⟩ | ⟨e1, e2⟩ <;> rcases hat b' r h2 l2 with ⟨_, o3, r3, m3⟩ | ⟨e3, e4⟩
    · exact hh.inj b b' r r1 r3 m1 m3
    · have := hh.own_lt o1; omega
    · have := hh.own_lt o3; omega
    · omega

theorem HRel.virtual {X : Nat → Prop} {ρ : List (Option Nat)} {h : List Blk} {w : World} (hh : HRel X ρ h w) {ps : List AV} (hp : relAll X w ρ ps []) :
    HRel X (ρ ++ [none]) (h ++ [some ps]) w := by
  refine ⟨by simp [hh.len], ?_, ?_⟩
  · intro b ps' hb
    rcases Nat.lt_or_ge b h.length with hlt | hge
    · rw [List.getElem?_append_left hlt] at hb
      rw [List.getElem?_append_left (by rw [hh.len]; exact hlt)]
      exact (hh.blk b ps' hb).keep Keep.refl (fun _ _ h => h) (fun _ _ h => get_snoc_old h) (fun _ _ => rfl)
    · rw [List.getElem?_append_right hge] at hb
      rcases Nat.eq_zero_or_pos (b - h.length) with h0 | h0
      · rw [h0] at hb; simp at hb; subst hb
        rw [List.getElem?_append_right (by rw [hh.len]; exact hge), hh.len, h0]
        exact relAll_keep Keep.refl (fun _ _ h => h) _ _ _ _ (fun _ _ h => get_snoc_old h) hp
      · rw [List.getElem?_eq_none (by simp; omega)] at hb; cases hb
  · intro b b' r h1 h2 l1 l2
    have hat : ∀ b, (ρ ++ [none])[b]? = some (some r) → b < ρ.length := by
      intro b hb
      obtain ⟨hl, _⟩ := List.getElem?_eq_some_iff.1 hb
      rcases Nat.lt_or_ge b ρ.length with h | h
      · exact h
      · have : b = ρ.length := by simp at hl; omega
        subst this; simp at hb
    have a1 := hat b h1
    have a2 := hat b' h2
    rw [List.getElem?_append_left a1] at h1
    rw [List.getElem?_append_left a2] at h2
    rw [hh.len] at a1 a2
    exact hh.inj b b' r h1 h2 ((live_snoc a1).1 l1) ((live_snoc a2).1 l2)

theorem live_kill {h : List Blk} {b b' : Nat} (hl : live (h.set b none) b') : live h b' ∧ b ≠ b' := by
  obtain ⟨ps, hp⟩ := hl
  by_cases e : b = b'
  · subst e
    rw [List.getElem?_set] at hp
    simp at hp
  · rw [List.getElem?_set_ne e] at hp; exact ⟨⟨ps, hp⟩, e⟩

theorem own_kill {ρ : List (Option Nat)} {h : List Blk} {b r : Nat} (ho : own ρ (h.set b none) r) : own ρ h r := by
  obtain ⟨b', hb, hl⟩ := ho
  exact ⟨b', hb, (live_kill hl).1⟩

theorem HRel.kill {X X' : Nat → Prop} {ρ : List (Option Nat)} {h : List Blk} {w : World} (hh : HRel X ρ h w) (b : Nat) (hX : ∀ r, r < w.heap.size → X' r → X r) : HRel X' ρ (h.set b none) w := by
  refine ⟨by simp [hh.len], ?_, ?_⟩
  · intro b' ps hb
    by_cases e : b = b'
    · subst e
      rw [List.getElem?_set] at hb
      simp at hb
    · rw [List.getElem?_set_ne e] at hb
      exact (hh.blk b' ps hb).keep Keep.refl hX (fun _ _ h => h) (fun _ _ => rfl)
  · intro b1 b2 r h1 h2 l1 l2
    exact hh.inj b1 b2 r h1 h2 (live_kill l1).1 (live_kill l2).1

end Go.Ax

namespace Go.Ax

section
variable {P : Program}

theorem run_sz {t : TypeId} {s : Nat} (h : szT P t = some s) (w : World) : (sizeOf t).run P w = .ok s w := by
  unfold szT at h
  obtain ⟨i, hi, rfl⟩ := Option.map_eq_some_iff.1 h
  simp [sizeOf, typeInfo, hi]

theorem run_und {t : TypeId} {d : TypeDesc} (h : P.underlying t = some d) (w : World) : (underlying t).run P w = .ok d w := run_underlying h w

theorem run_agg {t : TypeId} {g : Bool} (h : aggT P t = some g) (w : World) : (isAgg t).run P w = .ok g w := by
  unfold aggT at h
  obtain ⟨d, hd, rfl⟩ := Option.map_eq_some_iff.1 h
  simp only [isAgg, Sem.run_bind, run_und hd, Result.andThen_ok]
  cases d <;> rfl

theorem addr_add (r o n : Nat) : (⟨r, o, none⟩ : Addr).add n = ⟨r, o + n, none⟩ := by
  unfold Addr.add; split <;> simp_all

theorem cell_of {w : World} {r o : Nat} {c : Array Value} {e : TypeId} {fz : Nat × Nat} {x : Value} (h : w.heap[r]? = some (.cells c e fz)) (hx : c[o]? = some x) :
    w.cell? ⟨r, o, none⟩ = some x := by
  simp [World.cell?, h, hx]

theorem cellsAt.cell {w : World} {a : Addr} {vs : List Value} (h : cellsAt w a vs) (hs : a.spot = none) (j : Nat) (v : Value) (hj : vs[j]? = some v) : w.cell? (a.add j) = some v := by
  obtain ⟨r, o, s⟩ := a
  simp only at hs
  subst hs
  obtain ⟨c, e, fz, hc, pre, post, hl, hp⟩ := h
  rw [addr_add]
  refine cell_of hc ?_
  simp only at hp
  subst hp
  rw [← Array.getElem?_toList, hl, List.append_assoc, List.getElem?_append_right (by omega), Nat.add_sub_cancel_left, List.getElem?_append_left (List.getElem?_eq_some_iff.1 hj).1]
  exact hj

theorem cellsAt.part {w : World} {a : Addr} {vs : List Value} (h : cellsAt w a vs) (hs : a.spot = none) (i n : Nat) (hi : i ≤ vs.length) : cellsAt w (a.add i) ((vs.drop i).take n) ∧ (a.add i).spot = none := by
  obtain ⟨r, o, s⟩ := a
  simp only at hs
  subst hs
  obtain ⟨c, e, fz, hc, pre, post, hl, hp⟩ := h
  rw [addr_add]
  refine ⟨⟨c, e, fz, hc, pre ++ vs.take i, (vs.drop i).drop n ++ post, ?_, ?_⟩, rfl⟩
  · rw [hl]
    simp only [List.append_assoc]
    congr 1
    rw [← List.append_assoc ((vs.drop i).take n), List.take_append_drop, ← List.append_assoc, List.take_append_drop]
  · simp only at hp ⊢; simp [hp]; omega

theorem cells_run {w : World} {a : Addr} {vs : List Value} (h : cellsAt w a vs) (hs : a.spot = none) : (loadCells a vs.length).run P w = .ok vs.toArray w :=
  run_loadCells_list w a vs (fun j v hj => h.cell hs j v hj)

variable {X : Nat → Prop} {ρ : List (Option Nat)} {h : List Blk} {w : World}

theorem own_cells (hh : HRel X ρ h w) {b r base : Nat} {ps qs : List AV} (hr : ρ[b]? = some (some r)) (hb : row h b = some ps) (hd : rowDrop ps base = some qs) :
    ∃ cs, relAll X w ρ qs cs ∧ ∀ i n, i + n ≤ cs.length → cellsAt w ⟨r, base + i, none⟩ ((cs.drop i).take n) := by
  have hb := row_some hb
  have h1 := hh.blk b ps hb
  rw [hr] at h1
  obtain ⟨c, e, fz, hc, _, cs, post, hl, hp⟩ := h1
  refine ⟨cs.drop base, rowDrop_rel hp hd, ?_⟩
  intro i n hi
  refine ⟨c, e, fz, hc, cs.take (base + i), ((cs.drop base).drop i).drop n ++ post, ?_, ?_⟩
  · rw [hl]
    simp only [List.append_assoc]
    rw [← List.append_assoc (((cs.drop base).drop i).take n), List.take_append_drop, List.drop_drop, ← List.append_assoc, List.take_append_drop]
  · simp only [List.length_take, List.length_drop] at hi ⊢
    have := rowDrop_le hp hd
    omega

theorem loadCell_ok (hh : HRel X ρ h w) {x v : AV} {y : Value} (hx : AV.relV X w ρ x y) (e : loadCell h x = some v) :
    ∃ a z, y = .pointer (some a) ∧ w.cell? a = some z ∧ AV.relV X w ρ v z := by
  unfold loadCell at e
  split at e
  · rename_i b base i
    obtain ⟨ps, hb, e⟩ := Option.bind_eq_some_iff.1 e
    obtain ⟨qs, hd, e⟩ := Option.bind_eq_some_iff.1 e
    simp only [AV.relV, AV.rel] at hx
    obtain ⟨r, hr, hy⟩ := hx
    cases hy
    obtain ⟨cs, hq, hc⟩ := own_cells hh hr hb hd
    obtain ⟨z, hz, hv⟩ := rowCell_rel hq e
    refine ⟨_, z, rfl, ?_, hv⟩
    have hi : i < cs.length := (List.getElem?_eq_some_iff.1 hz).1
    have := (hc i 1 (by omega)).cell rfl 0 z (by rw [List.getElem?_take_of_lt (by omega), List.getElem?_drop]; simpa using hz)
    simpa [addr_add] using this
  · rename_i x
    split at e
    · rename_i ho
      have e := Option.some.inj e
      subst e
      simp only [AV.relV, AV.rel] at hx
      obtain ⟨a, vs, hy, hs, hX, hv, hc⟩ := hx
      cases hy
      have hl := rel_len _ _ _ hv
      rw [one_size ho] at hl
      obtain ⟨z, rfl⟩ := List.length_eq_one_iff.1 hl
      refine ⟨a, z, rfl, ?_, relV_of_rel ho (rel_nil_lift hv)⟩
      have := hc.cell hs 0 z (by simp)
      simpa [Addr.add] using this
    · cases e
  · cases e

theorem loadAgg_ok (hh : HRel X ρ h w) {ints : Bool} {s : Nat} {x v : AV} {y : Value} (hx : AV.relV X w ρ x y) (e : loadAgg ints s h x = some v) :
    ∃ a cs, y = .pointer (some a) ∧ (loadCells a s).run P w = .ok cs w ∧ AV.relV X w ρ v (.agg cs) := by
  unfold loadAgg at e
  split at e
  · rename_i b base i
    obtain ⟨ps, hb, e⟩ := Option.bind_eq_some_iff.1 e
    obtain ⟨qs, hd, e⟩ := Option.bind_eq_some_iff.1 e
    simp only [AV.relV, AV.rel] at hx
    obtain ⟨r, hr, hy⟩ := hx
    cases hy
    obtain ⟨cs, hq, hc⟩ := own_cells hh hr hb hd
    rcases rowAgg_rel hq e with ⟨hv, hi⟩ | ⟨rfl, hv⟩
    · refine ⟨_, _, rfl, ?_, hv⟩
      have := cells_run (P := P) (hc i s hi) rfl
      rwa [show ((cs.drop i).take s).length = s from by simp; omega] at this
    · exact ⟨_, #[], rfl, rfl, hv⟩
  · rename_i x
    split at e
    · rename_i ho
      have e := Option.some.inj e
      subst e
      simp only [AV.relV, AV.rel] at hx
      obtain ⟨a, vs, hy, hs, hX, hv, hc⟩ := hx
      cases hy
      refine ⟨a, vs.toArray, rfl, ?_, ?_⟩
      · have := cells_run (P := P) hc hs
        have hl := rel_len _ _ _ hv
        rw [hl, ho.2] at this
        exact this
      · cases x <;> simp only [AV.isAggV, Bool.false_eq_true, false_and] at ho
        · simp only [AV.rel] at hv; simp only [AV.relV]; exact ⟨by rw [hv.1], hv.2⟩
        · simp only [AV.rel] at hv; simp only [AV.relV]
          exact ⟨_, rfl, by simpa using relAll_keep Keep.refl (fun _ _ h => h) _ [] ρ _ (by simp) hv⟩
    · cases e
  · cases e

theorem load_run {t : TypeId} {s : Nat} {g : Bool} {a : Addr} (hs : szT P t = some s) (hg : aggT P t = some g) :
    (g = false → ∀ z, w.cell? a = some z → (Instr.loadAt t (.pointer (some a))).run P w = .ok z w) ∧
    (g = true → ∀ cs, (loadCells a s).run P w = .ok cs w → (Instr.loadAt t (.pointer (some a))).run P w = .ok (.agg cs) w) := by
  constructor
  · rintro rfl z hz
    simp [Instr.loadAt, Instr.sureAddr, loadVar, run_agg hg, hz]
  · rintro rfl cs hz
    simp [Instr.loadAt, Instr.sureAddr, loadVar, run_agg hg, run_sz hs, hz]

def loadA (P : Program) (h : List Blk) (t : TypeId) (x : AV) : Option AV :=
  match szT P t, aggT P t with
  | some _, some false => loadCell h x
  | some s, some true => loadAgg (intsT P t) s h x
  | _, _ => none

theorem loadA_ok (hh : HRel X ρ h w) {t : TypeId} {x v : AV} {y : Value} (hx : AV.relV X w ρ x y) (e : loadA P h t x = some v) :
    ∃ z, (Instr.loadAt t y).run P w = .ok z w ∧ AV.relV X w ρ v z := by
  unfold loadA at e
  split at e
  · rename_i hs hg
    obtain ⟨a, z, rfl, hz, hv⟩ := loadCell_ok hh hx e
    exact ⟨z, (load_run hs hg).1 rfl z hz, hv⟩
  · rename_i hs hg
    obtain ⟨a, cs, rfl, hz, hv⟩ := loadAgg_ok (P := P) hh hx e
    exact ⟨_, (load_run hs hg).2 rfl cs hz, hv⟩
  · cases e
end
end Go.Ax

namespace Go.Ax
section
variable {P : Program} {X : Nat → Prop} {ρ : List (Option Nat)} {h : List Blk} {w : World}

theorem intsOf_ok (hh : HRel X ρ h w) {x : AV} {y : Value} {k : IntKind} {l : List Int} (hx : AV.relV X w ρ x y) (e : intsOf h x = some (k, l)) :
    (∃ a cap, y = .slice (some a) l.length cap ∧ ∀ j v, (l.map (Value.int k))[j]? = some v → w.cell? (a.add j) = some v) ∨ (l = [] ∧ y = .slice none 0 0) ∨ (∃ s, y = .string s ∧ k = .u8 ∧ l = strOf s) := by
  unfold intsOf at e
  split at e
  · rename_i b base sz off len cap
    split at e
    · rename_i hsz
      subst hsz
      obtain ⟨ps, hb, e⟩ := Option.bind_eq_some_iff.1 e
      obtain ⟨qs, hd, e⟩ := Option.bind_eq_some_iff.1 e
      split at e
      · rename_i n k' l' rest
        obtain ⟨hi, e⟩ := oguard_some e
        have e := Option.some.inj e
        cases e
        simp only [AV.relV, AV.rel] at hx
        rcases hx with ⟨r, o, hr, hy, hrm, hcap, hlc⟩ | ⟨hr, hy, h1, h2⟩
        · cases hy
          rcases hcap with hcap | ⟨rfl, hroom⟩
          · have : len = 0 := by omega
            subst this
            left
            refine ⟨⟨r, o, none⟩, cap, by simp, ?_⟩
            intro j v hj
            simp at hj
          · obtain ⟨cs, hq, hc⟩ := own_cells hh hr hb hd
            simp only [relAll] at hq
            obtain ⟨a, bb, rfl, hq1, hq2⟩ := hq
            simp only [AV.rel] at hq1
            obtain ⟨rfl, rfl⟩ := hq1
            have hl : ((l'.drop off).take len).length = len := by simp; omega
            left
            refine ⟨⟨r, base + off, none⟩, cap, by rw [hl], ?_⟩
            have hcc := hc off len (by simp; omega)
            have heq : ((l'.map (Value.int k) ++ bb).drop off).take len = ((l'.drop off).take len).map (Value.int k) := by
              rw [List.drop_append_of_le_length (by simp; omega), List.take_append_of_le_length (by simp; omega), List.map_take, List.map_drop]
            rw [heq] at hcc
            exact hcc.cell rfl
        · cases hy
          subst h1
          exact .inr (.inl ⟨by simp, rfl⟩)
      · cases e
    · cases e
  · have e := Option.some.inj e
    cases e
    simp only [AV.relV, AV.rel, roAt] at hx
    rcases hx with ⟨a, c, hy, hs, hX, hc, _⟩ | ⟨h0, a, hy⟩
    · cases hy
      left
      exact ⟨a, c, rfl, hc.cell hs⟩
    · cases hy
      have hl := List.eq_nil_of_length_eq_zero h0
      subst hl
      cases a with
      | none => exact .inr (.inl ⟨rfl, rfl⟩)
      | some a => exact .inl ⟨a, 0, rfl, by intro j v hj; simp at hj⟩
  · have e := Option.some.inj e
    cases e
    simp only [AV.relV, AV.rel] at hx
    cases hx.1
    exact .inr (.inl ⟨rfl, rfl⟩)
  · have e := Option.some.inj e
    cases e
    simp only [AV.relV, AV.rel] at hx
    cases hx.1
    exact .inr (.inr ⟨_, rfl, rfl, rfl⟩)
  · cases e

theorem ints_run {k : IntKind} {l : List Int} {a : Addr} (h : ∀ j v, (l.map (Value.int k))[j]? = some v → w.cell? (a.add j) = some v) :
    (loadCells a l.length).run P w = .ok (l.map (Value.int k)).toArray w := by
  have := run_loadCells_list (P := P) w a _ h
  simpa using this

theorem lenA_ok {x : AV} {y : Value} {n : Nat} (hx : AV.relV X w ρ x y) (e : lenA x = some n) :
    ∃ a c, y = .slice a n c := by
  unfold lenA at e
  split at e
  · have e := Option.some.inj e
    subst e
    simp only [AV.relV, AV.rel] at hx
    rcases hx with ⟨r, o, hr, hy, _⟩ | ⟨hr, hy, h1, h2⟩
    · cases hy; exact ⟨_, _, rfl⟩
    · cases hy; subst h1; exact ⟨_, _, rfl⟩
  · have e := Option.some.inj e
    subst e
    simp only [AV.relV, AV.rel, roAt] at hx
    rcases hx with ⟨a, c, hy, _⟩ | ⟨h0, a, hy⟩
    · cases hy; exact ⟨_, _, rfl⟩
    · cases hy; rw [h0]; exact ⟨_, _, rfl⟩
  · have e := Option.some.inj e
    subst e
    simp only [AV.relV, AV.rel, roAt] at hx
    obtain ⟨vs, _, hx, _⟩ := hx
    rcases hx with ⟨a, c, hy, _⟩ | ⟨h0, a, hy⟩
    · cases hy; exact ⟨_, _, rfl⟩
    · cases hy; rw [h0]; exact ⟨_, _, rfl⟩
  · have e := Option.some.inj e
    subst e
    simp only [AV.relV, AV.rel] at hx
    cases hx.1; exact ⟨_, _, rfl⟩
  · cases e

inductive ElemIs (P : Program) (t : TypeId) : Ix → Prop
  | arr {n : Nat} {e : TypeId} {s : Nat} {g i : Bool} (hu : P.underlying t = some (.array n e)) (hs : szT P e = some s) (hg : aggT P e = some g) : ElemIs P t (.arr n s g i)
  | sl {e : TypeId} {s : Nat} {g i : Bool} (hu : P.underlying t = some (.slice e)) (hs : szT P e = some s) (hg : aggT P e = some g) : ElemIs P t (.sl s g i)
  | str (hu : P.underlying t = some .string) : ElemIs P t .str
  | parr {a : TypeId} {n : Nat} {e : TypeId} {s : Nat} (hu : P.underlying t = some (.pointer a)) (ha : P.underlying a = some (.array n e)) (hs : szT P e = some s) : ElemIs P t (.parr n s)
  | no : ElemIs P t .no

theorem elemT_is (t : TypeId) : ElemIs P t (elemT P t) := by
  unfold elemT
  split
  · split
    · exact .arr ‹_› ‹_› ‹_›
    · exact .no
  · split
    · exact .sl ‹_› ‹_› ‹_›
    · exact .no
  · exact .str ‹_›
  · split
    · split
      · exact .parr ‹_› ‹_› ‹_›
      · exact .no
    · exact .no
  · exact .no

theorem indexAddrA_ok {t : TypeId} {x v : AV} {y : Value} {k : IntKind} {n : Int} (hx : AV.relV X w ρ x y) (e : indexAddrA P t x n = some v) :
    ∃ z, (Instr.indexAt t y (.int k n)).run P w = .ok z w ∧ AV.relV X w ρ v z := by
  unfold indexAddrA at e
  have hE := elemT_is (P := P) t
  split at e
  · rename_i len sz g ints b base i heq
    rw [heq] at hE
    cases hE with
    | arr hu hs hg =>
    obtain ⟨⟨h0, h1⟩, e⟩ := oguard_some e
    have e := Option.some.inj e
    subst e
    simp only [AV.relV, AV.rel] at hx
    obtain ⟨r, hr, hy⟩ := hx
    cases hy
    refine ⟨.pointer (some ⟨r, base + i + n.toNat * sz, none⟩), ?_, ?_⟩
    · simp [Instr.indexAt, asIntOf, run_und hu, Instr.sureAddr, h0, h1, run_sz hs, addr_add]
    · simp only [AV.relV, AV.rel]; exact ⟨r, hr, by rw [Nat.add_assoc]⟩
  · rename_i len sz g ints m kk l heq
    rw [heq] at hE
    cases hE with
    | arr hu hs hg =>
    obtain ⟨⟨h2, h3, h0, h1⟩, e⟩ := oguard_some e
    have e := Option.some.inj e
    subst e
    subst h2 h3
    simp only [AV.relV, AV.rel] at hx
    obtain ⟨a, vs, hy, hsp, hX, ⟨hv1, hv2⟩, hc⟩ := hx
    cases hy
    subst hv1
    have hn : n.toNat < l.length := by omega
    refine ⟨.pointer (some (a.add n.toNat)), ?_, ?_⟩
    · simp [Instr.indexAt, asIntOf, run_und hu, Instr.sureAddr, h0, h1, run_sz hs]
    · simp only [AV.relV, AV.rel]
      have := hc.part hsp n.toNat 1 (by simp; omega)
      refine ⟨_, [.int kk (l.getD n.toNat 0)], rfl, this.2, ?_, ⟨rfl, rfl⟩, ?_⟩
      · obtain ⟨r, o, s⟩ := a; simp only at hsp; subst hsp; rw [addr_add]; exact hX
      · rw [List.drop_eq_getElem_cons (by simpa using hn)] at this
        simpa [hn] using this.1
  · rename_i sz g ints b base sz' off len cap heq
    rw [heq] at hE
    cases hE with
    | sl hu hs hg =>
    obtain ⟨⟨h2, h0, h1⟩, e⟩ := oguard_some e
    have e := Option.some.inj e
    subst e
    subst h2
    simp only [AV.relV, AV.rel] at hx
    rcases hx with ⟨r, o, hr, hy, hrm, hcap, hlc⟩ | ⟨hr, hy, h3, h4⟩
    · cases hy
      rcases hcap with hcap | ⟨rfl, hroom⟩
      · omega
      · refine ⟨.pointer (some ⟨r, base + off + n.toNat * sz, none⟩), ?_, ?_⟩
        · simp [Instr.indexAt, asIntOf, run_und hu, h0, h1, run_sz hs, addr_add]
        · simp only [AV.relV, AV.rel]; exact ⟨r, hr, by rw [Nat.add_assoc]⟩
    · subst h3; omega
  · rename_i sz g ints kk l heq
    rw [heq] at hE
    cases hE with
    | sl hu hs hg =>
    obtain ⟨⟨h2, h0, h1⟩, e⟩ := oguard_some e
    have e := Option.some.inj e
    subst e
    subst h2
    simp only [AV.relV, AV.rel, roAt] at hx
    rcases hx with ⟨a, c, hy, hsp, hX, hc, _⟩ | ⟨h3, _, hy⟩
    · cases hy
      have hn : n.toNat < l.length := by omega
      refine ⟨.pointer (some (a.add n.toNat)), ?_, ?_⟩
      · simp [Instr.indexAt, asIntOf, run_und hu, h0, h1, run_sz hs]
      · simp only [AV.relV, AV.rel]
        have := hc.part hsp n.toNat 1 (by simp; omega)
        refine ⟨_, [.int kk (l.getD n.toNat 0)], rfl, this.2, ?_, ⟨rfl, rfl⟩, ?_⟩
        · obtain ⟨r, o, s⟩ := a; simp only at hsp; subst hsp; rw [addr_add]; exact hX
        · rw [List.drop_eq_getElem_cons (by simpa using hn)] at this
          simpa [hn] using this.1
    · omega
  · rename_i sz g ints sz' es heq
    rw [heq] at hE
    cases hE with
    | sl hu hs hg =>
    obtain ⟨⟨h2, hz, h0, h1⟩, e⟩ := oguard_some e
    have e := Option.some.inj e
    subst e
    subst h2
    simp only [AV.relV, AV.rel, roAt] at hx
    obtain ⟨vs, hv, hx, hss⟩ := hx
    rcases hx with ⟨a, c, hy, hsp, hX, hc, _⟩ | ⟨h3, _, hy⟩
    · cases hy
      have hn : n.toNat < es.length := by omega
      refine ⟨.pointer (some (a.add (n.toNat * sz))), ?_, ?_⟩
      · simp [Instr.indexAt, asIntOf, run_und hu, h0, h1, run_sz hs]
      · simp only [AV.relV, AV.rel]
        have hl := relAll_sizes_len hv hss
        have hle : n.toNat * sz ≤ vs.length := by rw [hl]; exact Nat.mul_le_mul_right _ (by omega)
        have := hc.part hsp (n.toNat * sz) sz hle
        refine ⟨_, _, rfl, this.2, ?_, ?_, this.1⟩
        · obtain ⟨r, o, s⟩ := a; simp only at hsp; subst hsp; rw [addr_add]; exact hX
        · have := relAll_sizes hv hss n.toNat hn
          rw [List.getD_eq_getElem?_getD, List.getElem?_eq_getElem hn]
          exact this
    · omega
  · cases e

theorem indexA_ok {t : TypeId} {x v : AV} {y : Value} {k : IntKind} {n : Int} (hx : AV.relV X w ρ x y) (e : indexA P t x n = some v) :
    ∃ z, (Instr.index t y (.int k n)).run P w = .ok z w ∧ AV.relV X w ρ v z := by
  unfold indexA at e
  have hE := elemT_is (P := P) t
  split at e
  · rename_i len sz g ints m kk l heq
    rw [heq] at hE
    cases hE with
    | arr hu hs hg =>
    obtain ⟨⟨h2, h4, h3, h0, h1⟩, e⟩ := oguard_some e
    have e := Option.some.inj e
    subst e
    subst h2 h3 h4
    simp only [AV.relV] at hx
    obtain ⟨rfl, h5⟩ := hx
    have hn : n.toNat < l.length := by omega
    refine ⟨.int kk (l.getD n.toNat 0), ?_, by simp [AV.relV, AV.rel, flat]⟩
    simp [Instr.index, asIntOf, run_und hu, h0, h1, run_sz hs, part, run_agg hg, hn]
  · rename_i s heq
    rw [heq] at hE
    cases hE with
    | str hu =>
    obtain ⟨⟨h0, h1⟩, e⟩ := oguard_some e
    have e := Option.some.inj e
    subst e
    simp only [AV.relV, AV.rel] at hx
    cases hx.1
    have hn : n.toNat < s.size := by omega
    refine ⟨.int .u8 ((s.data.toList.getD n.toNat 0).toNat), ?_, by simp [AV.relV, AV.rel, flat]⟩
    have hg : s[n.toNat]? = some (s.data.toList.getD n.toNat 0) := by
      rw [getElem?_pos s n.toNat hn]
      have hn2 : n.toNat < s.data.size := hn
      show some (s.data[n.toNat]) = some (s.data.toList.getD n.toNat 0)
      rw [List.getD_eq_getElem?_getD, Array.getElem?_toList, Array.getElem?_eq_getElem hn2]
      rfl
    simp [Instr.index, asIntOf, run_und hu, h0, hg]
  · rename_i len sz g ints ps heq
    rw [heq] at hE
    cases hE with
    | arr hu hs hg =>
    obtain ⟨⟨h2, h4, h0, h1⟩, e2⟩ := oguard_some e
    subst h2 h4
    simp only [AV.relV] at hx
    obtain ⟨cs, rfl, h5⟩ := hx
    obtain ⟨x, h6, h7⟩ := rowCell_rel h5 e2
    have hn : n.toNat < cs.size := by
      have := (List.getElem?_eq_some_iff.1 h6).1
      simpa using this
    have hx : cs[n.toNat] = x := by
      have := (List.getElem?_eq_some_iff.1 h6).2
      simpa using this
    refine ⟨x, ?_, h7⟩
    simp [Instr.index, asIntOf, run_und hu, h0, h1, run_sz hs, part, run_agg hg, hn, hx]
  · cases e
end
end Go.Ax

namespace Go.Ax
section
variable {P : Program} {X : Nat → Prop} {ρ : List (Option Nat)} {h : List Blk} {w : World}

theorem fieldT_is {s : TypeId} {f off n : Nat} {g ints : Bool} (e : fieldT P s f = some (off, n, g, ints)) :
    ∃ fs x, P.underlying s = some (.struct fs) ∧ fs[f]? = some x ∧ x.offset = off ∧ szT P x.type = some n ∧ aggT P x.type = some g := by
  unfold fieldT at e
  split at e
  · rename_i fs hu
    split at e
    · rename_i x hx
      split at e
      · rename_i hs hg
        cases e
        exact ⟨fs, x, hu, hx, rfl, hs, hg⟩
      · cases e
    · cases e
  · cases e

theorem fieldAddrA_ok {s : TypeId} {f : Nat} {x v : AV} {y : Value} (hx : AV.relV X w ρ x y) (e : fieldAddrA P s x f = some v) :
    ∃ z, (Instr.fieldAt s y f).run P w = .ok z w ∧ AV.relV X w ρ v z := by
  unfold fieldAddrA at e
  split at e
  · rename_i off n g ints b base i hf
    obtain ⟨fs, fx, hu, hfx, rfl, hs, hg⟩ := fieldT_is hf
    split at e
    · cases e
    · rename_i hn
      have e := Option.some.inj e
      subst e
      simp only [AV.relV, AV.rel] at hx
      obtain ⟨r, hr, hy⟩ := hx
      cases hy
      refine ⟨.pointer (some ⟨r, base + i + fx.offset, none⟩), ?_, ?_⟩
      · simp [Instr.fieldAt, run_und hu, hfx, Instr.sureAddr, fieldPlace, run_sz hs, hn, addr_add]
      · simp only [AV.relV, AV.rel]; exact ⟨r, hr, by simp⟩
  · rename_i off n g ints ps hf
    obtain ⟨fs, fx, hu, hfx, rfl, hs, hg⟩ := fieldT_is hf
    split at e
    · cases e
    · rename_i hn
      simp only [AV.relV, AV.rel] at hx
      obtain ⟨a, vs, hy, hsp, hX, hv, hc⟩ := hx
      cases hy
      have hrun : (Instr.fieldAt s (.pointer (some a)) f).run P w = .ok (.pointer (some (a.add fx.offset))) w := by
        simp [Instr.fieldAt, run_und hu, hfx, Instr.sureAddr, fieldPlace, run_sz hs, hn]
      refine ⟨_, hrun, ?_⟩
      have hX' : ¬ X (a.add fx.offset).block := by
        obtain ⟨r, o, s⟩ := a; simp only at hsp; subst hsp; rw [addr_add]; exact hX
      split at e
      · obtain ⟨u, hu1, e⟩ := Option.bind_eq_some_iff.1 e
        split at e
        · rename_i hag
          have e := Option.some.inj e
          subst e
          rcases rowAgg_rel hv hu1 with ⟨hr, hle⟩ | ⟨h0, _⟩
          · obtain ⟨cs, hcs, hp, hsz⟩ := parts_rel hag hr
            cases hcs
            have := hc.part hsp fx.offset n (by omega)
            simp only [AV.relV, AV.rel]
            refine ⟨_, _, rfl, this.2, hX', ?_, this.1⟩
            cases u <;> simp only [AV.isAggV, Bool.false_eq_true] at hag <;> simp only [AV.parts, relAll_one] at hp <;> first | exact hp | (simp only [AV.rel]; exact hp)
          · exact absurd h0 hn
        · cases e
      · obtain ⟨qs, hq, e⟩ := Option.bind_eq_some_iff.1 e
        obtain ⟨u, hu1, e⟩ := Option.bind_eq_some_iff.1 e
        split at e
        case isFalse => cases e
        rename_i hsol
        have e := Option.some.inj e
        subst e
        have h1 := rowDrop_rel hv hq
        obtain ⟨z, hz, hr⟩ := rowCell_rel h1 hu1
        have hle := rowDrop_le hv hq
        have := hc.part hsp fx.offset 1 hle
        simp only [AV.relV, AV.rel]
        have hone : u.one = true ∧ u ≠ .any := by
          cases u <;> simp_all [AV.solid, AV.one]
        refine ⟨_, [z], rfl, this.2, hX', rel_of_relV hone.1 hone.2 hr, ?_⟩
        have hlt := (List.getElem?_eq_some_iff.1 hz).1
        have he : (vs.drop fx.offset).take 1 = [z] := by
          cases hd : vs.drop fx.offset with
          | nil => rw [hd] at hlt; simp at hlt
          | cons a l => rw [hd] at hz; simp at hz; simp [hz]
        rw [← he]; exact this.1
  · cases e

theorem fieldA_ok {s : TypeId} {f : Nat} {x v : AV} {y : Value} (hx : AV.relV X w ρ x y) (e : fieldA P s x f = some v) (hxa : x.isAggV = true) :
    ∃ z, (Instr.field s y f).run P w = .ok z w ∧ AV.relV X w ρ v z := by
  unfold fieldA at e
  split at e
  · rename_i off n g ints hf
    obtain ⟨fs, fx, hu, hfx, rfl, hs, hg⟩ := fieldT_is hf
    obtain ⟨cs, rfl, hp, hsz⟩ := parts_rel hxa hx
    split at e
    · rename_i hgt
      obtain ⟨qs, hq, e⟩ := Option.bind_eq_some_iff.1 e
      obtain ⟨u, hu1, rfl⟩ := Option.map_eq_some_iff.1 e
      have h1 := rowDrop_rel hp hq
      have h2 := rowTake_rel h1 hu1
      refine ⟨.agg (cs.extract fx.offset (fx.offset + n)), ?_, ?_⟩
      · subst hgt
        simp [Instr.field, run_und hu, hfx, asAgg, part, run_agg hg, run_sz hs]
      · have := mkAgg_rel h2.1
        have he : cs.extract fx.offset (fx.offset + n) = ((cs.toList.drop fx.offset).take n).toArray := by
          apply Array.ext'
          simp [Array.toList_extract]
        rw [he]; exact this
    · rename_i hgf
      obtain ⟨qs, hq, e⟩ := Option.bind_eq_some_iff.1 e
      have h1 := rowDrop_rel hp hq
      obtain ⟨z, hz, hr⟩ := rowCell_rel h1 e
      refine ⟨z, ?_, hr⟩
      have hg' : g = false := by cases g <;> simp_all
      subst hg'
      have hz' : cs[fx.offset]? = some z := by simpa using hz
      simp [Instr.field, run_und hu, hfx, asAgg, part, run_agg hg, hz']
  · cases e

theorem bound_run {most : Nat} {code : BoundsCode} {n : Int} {k : IntKind} (h0 : 0 ≤ n) (h1 : n ≤ most) :
    (Instr.sliceBound (.int k n) most code).run P w = .ok n.toNat w := by
  simp [Instr.sliceBound, asIntOf, h0, h1]

def optRel (X : Nat → Prop) (w : World) (ρ : List (Option Nat)) (o : Option AV) (ov : Option Value) : Prop :=
  (o = none ∧ ov = none) ∨ (∃ x y, o = some x ∧ ov = some y ∧ AV.relV X w ρ x y)

theorem bndA_ok {o : Option AV} {ov : Option Value} {d most : Nat} {f : Nat → Option AV} {v : AV} (ho : optRel X w ρ o ov) (he : bndA o d most f = some v) :
    (o = none ∧ ov = none ∧ f d = some v) ∨ (∃ kk n, o ≠ none ∧ ov = some (.int kk n) ∧ 0 ≤ n ∧ n ≤ most ∧ f n.toNat = some v) := by
  unfold bndA at he
  rcases ho with ⟨rfl, rfl⟩ | ⟨x, y, rfl, rfl, hr⟩
  · exact .inl ⟨rfl, rfl, he⟩
  · split at he
    · rename_i heq; cases heq
    · rename_i kk n heq
      cases heq
      obtain ⟨⟨h0, h1⟩, he⟩ := oguard_some he
      simp only [AV.relV, AV.rel] at hr
      cases hr.1
      exact .inr ⟨kk, n, by simp, rfl, h0, h1, he⟩
    · cases he

theorem boundsA_ok' {isSlice : Bool} {len cap capr : Nat} {lo hi mx : Option AV} {lov hiv mxv : Option Value} {k : Nat → Nat → Nat → Option AV} {v : AV}
    (hlo : optRel X w ρ lo lov) (hhi : optRel X w ρ hi hiv) (hmx : optRel X w ρ mx mxv) (hlc : len ≤ cap) (hcr : cap ≤ capr) (e : boundsA len cap lo hi mx k = some v) :
    ∃ l h m m', (Instr.sliceBounds isSlice len capr lov hiv mxv).run P w = .ok (l, h, m') w ∧ k l h m = some v ∧ l ≤ h ∧ h ≤ m ∧ m ≤ cap ∧ m ≤ m' ∧ (m' = m ∨ m' = capr ∧ m = cap) := by
  unfold boundsA at e
  split at e
  · cases e
  rename_i hh
  rcases bndA_ok hmx e with ⟨rfl, rfl, e1⟩ | ⟨k1, m, hm0, rfl, hm1, hm2, e1⟩
  · rcases bndA_ok hhi e1 with ⟨rfl, rfl, e2⟩ | ⟨k2, n2, hn0, rfl, hn1, hn2, e2⟩
    · rcases bndA_ok hlo e2 with ⟨rfl, rfl, e3⟩ | ⟨k3, n3, hl0, rfl, hl1, hl2, e3⟩
      · exact ⟨0, len, cap, capr, by simp [Instr.sliceBounds], e3, by omega, hlc, Nat.le_refl _, hcr, .inr ⟨rfl, rfl⟩⟩
      · exact ⟨n3.toNat, len, cap, capr, by simp [Instr.sliceBounds, Instr.sliceBound, asIntOf, hl1, hl2], e3, by omega, hlc, Nat.le_refl _, hcr, .inr ⟨rfl, rfl⟩⟩
    · rcases bndA_ok hlo e2 with ⟨rfl, rfl, e3⟩ | ⟨k3, n3, hl0, rfl, hl1, hl2, e3⟩
      · exact ⟨0, n2.toNat, cap, capr, by simp [Instr.sliceBounds, Instr.sliceBound, asIntOf, hn1, (by omega : n2 ≤ capr)], e3, by omega, by omega, Nat.le_refl _, hcr, .inr ⟨rfl, rfl⟩⟩
      · exact ⟨n3.toNat, n2.toNat, cap, capr, by simp [Instr.sliceBounds, Instr.sliceBound, asIntOf, hn1, (by omega : n2 ≤ capr), hl1, (by omega : n3 ≤ max n2 0)], e3, by omega, by omega, Nat.le_refl _, hcr, .inr ⟨rfl, rfl⟩⟩
  · have hne : hi ≠ none := by
      rintro rfl
      cases mx with
      | none => exact hm0 rfl
      | some x => exact hh x rfl rfl
    have hm2' : m ≤ capr := by omega
    rcases bndA_ok hhi e1 with ⟨rfl, rfl, e2⟩ | ⟨k2, n2, hn0, rfl, hn1, hn2, e2⟩
    · exact absurd rfl hne
    · rcases bndA_ok hlo e2 with ⟨rfl, rfl, e3⟩ | ⟨k3, n3, hl0, rfl, hl1, hl2, e3⟩
      · exact ⟨0, n2.toNat, m.toNat, m.toNat, by simp [Instr.sliceBounds, Instr.sliceBound, asIntOf, hm1, hm2', hn1, (by omega : n2 ≤ max m 0)], e3, by omega, by omega, by omega, Nat.le_refl _, .inl rfl⟩
      · exact ⟨n3.toNat, n2.toNat, m.toNat, m.toNat, by simp [Instr.sliceBounds, Instr.sliceBound, asIntOf, hm1, hm2', hn1, hl1, (by omega : n2 ≤ max m 0), (by omega : n3 ≤ max n2 0)], e3, by omega, by omega, by omega, Nat.le_refl _, .inl rfl⟩

theorem boundsA_ok {isSlice : Bool} {len cap : Nat} {lo hi mx : Option AV} {lov hiv mxv : Option Value} {k : Nat → Nat → Nat → Option AV} {v : AV}
    (hlo : optRel X w ρ lo lov) (hhi : optRel X w ρ hi hiv) (hmx : optRel X w ρ mx mxv) (hlc : len ≤ cap) (e : boundsA len cap lo hi mx k = some v) :
    ∃ l h m, (Instr.sliceBounds isSlice len cap lov hiv mxv).run P w = .ok (l, h, m) w ∧ k l h m = some v ∧ l ≤ h ∧ h ≤ m ∧ m ≤ cap := by
  obtain ⟨l, h, m, m', h1, h2, h3, h4, h5, h6, h7⟩ := boundsA_ok' (P := P) (isSlice := isSlice) hlo hhi hmx hlc (Nat.le_refl _) e
  rcases h7 with rfl | ⟨rfl, rfl⟩ <;> exact ⟨l, h, _, h1, h2, h3, h4, h5⟩
end
end Go.Ax

namespace Go.Ax
section
variable {P : Program} {X : Nat → Prop} {ρ : List (Option Nat)} {h : List Blk} {w : World}

theorem roAt_sub {a : Addr} {kk : IntKind} {l : List Int} {lo hi : Nat} {m : Nat} (hsp : a.spot = none) (hX : ¬ X a.block) (hc : cellsAt w a (l.map (Value.int kk)))
    (h1 : lo ≤ hi) (h2 : hi ≤ l.length) (h3 : hi ≤ m) :
    AV.relV X w ρ (.roI kk ((l.drop lo).take (hi - lo))) (.slice (some (if m = lo then a else a.add (lo * 1))) (hi - lo) (m - lo)) := by
  simp only [AV.relV, AV.rel, roAt]
  left
  have hlen : ((l.drop lo).take (hi - lo)).length = hi - lo := by simp; omega
  rw [hlen, Nat.mul_one]
  have hp := hc.part hsp lo (hi - lo) (by simp; omega)
  rw [List.map_take, List.map_drop]
  by_cases hm : m = lo
  · have he : hi - lo = 0 := by omega
    rw [if_pos hm]
    refine ⟨a, _, rfl, hsp, hX, ?_, by omega⟩
    rw [he, List.take_zero]
    obtain ⟨c, e, fz, hc, pre, post, hl, hp'⟩ := hc
    exact ⟨c, e, fz, hc, pre, _, by rw [hl]; simp; rfl, hp'⟩
  · rw [if_neg hm]
    refine ⟨_, _, rfl, hp.2, ?_, hp.1, by omega⟩
    obtain ⟨r, o, s⟩ := a; simp only at hsp; subst hsp; rw [addr_add]; exact hX

theorem own_room (hh : HRel X ρ h w) {b r n : Nat} {ps : List AV} (hr : ρ[b]? = some (some r)) (hb : row h b = some ps) (hn : n ≤ psize ps) : room w r n := by
  have h1 := hh.blk b ps (row_some hb)
  rw [hr] at h1
  obtain ⟨c, e, fz, hc, _, cs, post, hl, hp⟩ := h1
  refine ⟨c, e, fz, hc, ?_⟩
  have := relAll_len _ _ _ hp
  have h2 : c.size = cs.length + post.length := by rw [← Array.length_toList, hl]; simp
  omega

theorem room_mono {r n m : Nat} (h : room w r n) (hm : m ≤ n) : room w r m := by
  obtain ⟨c, e, fz, hc, hn⟩ := h
  exact ⟨c, e, fz, hc, Nat.le_trans hm hn⟩

theorem sl_mk {b r base sz off len cap : Nat} {a : Addr} (hr : ρ[b]? = some (some r)) (ha : a = ⟨r, base + off, none⟩ ∨ (cap = 0 ∧ ∃ o, a = ⟨r, o, none⟩ ∧ room w r o)) (hroom : room w r (base + off + cap * sz)) (hl : len ≤ cap) :
    AV.relV X w ρ (.sl b base sz off len cap) (.slice (some a) len cap) := by
  simp only [AV.relV, AV.rel]
  left
  rcases ha with rfl | ⟨hc, o, rfl, ho⟩
  · exact ⟨r, _, hr, rfl, room_mono hroom (by omega), .inr ⟨rfl, hroom⟩, hl⟩
  · exact ⟨r, _, hr, rfl, ho, .inl hc, hl⟩

theorem sliceA_ok (hH : HRel X ρ h w) {t : TypeId} {x v : AV} {y : Value} {lo hi mx : Option AV} {lov hiv mxv : Option Value}
    (hlo : optRel X w ρ lo lov) (hhi : optRel X w ρ hi hiv) (hmx : optRel X w ρ mx mxv) (hx : AV.relV X w ρ x y) (e : sliceA P h t x lo hi mx = some v) :
    ∃ z, (Instr.sliceAt t y lov hiv mxv).run P w = .ok z w ∧ AV.relV X w ρ v z := by
  unfold sliceA at e
  have hE := elemT_is (P := P) t
  split at e
  · rename_i s heq
    rw [heq] at hE
    cases hE with
    | str hu =>
    split at e
    · cases e
    · rename_i hm
      have hmn : mx = none := by cases mx <;> simp_all
      subst hmn
      have hmv : mxv = none := by
        rcases hmx with ⟨_, h⟩ | ⟨_, _, h, _⟩
        · exact h
        · cases h
      subst hmv
      simp only [AV.relV, AV.rel] at hx
      cases hx.1
      obtain ⟨l, hh, m, hrun, hk, h1, h2, h3⟩ := boundsA_ok (P := P) (isSlice := false) hlo hhi hmx (Nat.le_refl _) e
      have hk := Option.some.inj hk
      subst hk
      refine ⟨.string (s.extract l hh), ?_, by simp [AV.relV, AV.rel, flat]⟩
      simp [Instr.sliceAt, Instr.slice, run_und hu, hrun]
  · rename_i n sz g ints b base i heq
    rw [heq] at hE
    cases hE with
    | arr hu hs hg =>
    simp only [AV.relV, AV.rel] at hx
    obtain ⟨r, hr, hy⟩ := hx
    cases hy
    obtain ⟨ps, hb, e⟩ := Option.bind_eq_some_iff.1 e
    obtain ⟨hsz, e⟩ := oguard_some e
    obtain ⟨l, hh, m, hrun, hk, h1, h2, h3⟩ := boundsA_ok (P := P) (isSlice := false) hlo hhi hmx (Nat.le_refl _) e
    have hk := Option.some.inj hk
    subst hk
    refine ⟨.slice (some (if m = l then ⟨r, base + i, none⟩ else (⟨r, base + i, none⟩ : Addr).add (l * sz))) (hh - l) (m - l), ?_, ?_⟩
    · simp [Instr.sliceAt, run_und hu, Instr.sureAddr, hrun, run_sz hs]
    · have hmul : l * sz + (m - l) * sz = m * sz := by rw [← Nat.add_mul]; congr 1; omega
      have hmul2 : m * sz ≤ n * sz := Nat.mul_le_mul_right _ h3
      refine sl_mk hr ?_ (own_room hH hr hb (by omega)) (by omega)
      split
      · right; exact ⟨by omega, _, rfl, own_room hH hr hb (by omega)⟩
      · left; rw [addr_add]; congr 1; omega
  · rename_i n sz g ints n' kk al heq
    rw [heq] at hE
    cases hE with
    | arr hu hs hg =>
    obtain ⟨⟨rfl, rfl⟩, e2⟩ := oguard_some e
    obtain ⟨l, hh, m, hrun, hk, h1, h2, h3⟩ := boundsA_ok (P := P) (isSlice := false) hlo hhi hmx (Nat.le_refl _) e2
    have hk := Option.some.inj hk
    subst hk
    simp only [AV.relV, AV.rel] at hx
    obtain ⟨a, vs, hy, hsp, hX, ⟨rfl, hv2⟩, hc⟩ := hx
    cases hy
    refine ⟨_, ?_, roAt_sub hsp hX hc h1 (by omega) h2⟩
    simp [Instr.sliceAt, run_und hu, Instr.sureAddr, hrun, run_sz hs]
  · rename_i sz g ints b base sz' off len cap heq
    rw [heq] at hE
    cases hE with
    | sl hu hs hg =>
    obtain ⟨rfl, e2⟩ := oguard_some e
    simp only [AV.relV, AV.rel] at hx
    rcases hx with ⟨r, o, hr, hy, hrm, hcap, hlc⟩ | ⟨hr, hy, h3, h4⟩
    · cases hy
      obtain ⟨l, hh, m, hrun, hk, h1, h2, h3⟩ := boundsA_ok (P := P) (isSlice := true) hlo hhi hmx hlc e2
      have hk := Option.some.inj hk
      subst hk
      refine ⟨.slice (if m = l then some ⟨r, o, none⟩ else some ((⟨r, o, none⟩ : Addr).add (l * sz))) (hh - l) (m - l), ?_, ?_⟩
      · simp [Instr.sliceAt, Instr.slice, run_und hu, hrun, run_sz hs]
      · have hmul : l * sz + (m - l) * sz = m * sz := by rw [← Nat.add_mul]; congr 1; omega
        have hmul2 : m * sz ≤ cap * sz := Nat.mul_le_mul_right _ h3
        rcases hcap with hcap | ⟨rfl, hroom⟩
        · have : m = l := by omega
          rw [if_pos this]
          simp only [AV.relV, AV.rel]
          exact .inl ⟨r, o, hr, rfl, hrm, .inl (by omega), by omega⟩
        · split
          · exact sl_mk hr (.inr ⟨by omega, _, rfl, hrm⟩) (room_mono hroom (by omega)) (by omega)
          · exact sl_mk hr (.inl (by rw [addr_add]; congr 1; omega)) (room_mono hroom (by omega)) (by omega)
    · subst h3 h4
      cases hy
      obtain ⟨l, hh, m, hrun, hk, h1, h2, h3⟩ := boundsA_ok (P := P) (isSlice := true) hlo hhi hmx (Nat.le_refl _) e2
      have hk := Option.some.inj hk
      subst hk
      have : l = 0 := by omega
      have : hh = 0 := by omega
      have : m = 0 := by omega
      subst l hh m
      refine ⟨.slice none 0 0, ?_, ?_⟩
      · simp [Instr.sliceAt, Instr.slice, run_und hu, hrun, run_sz hs]
      · simp only [AV.relV, AV.rel]
        right; simp [hr]
  · rename_i sz g ints kk al heq
    rw [heq] at hE
    cases hE with
    | sl hu hs hg =>
    obtain ⟨rfl, e2⟩ := oguard_some e
    simp only [AV.relV, AV.rel, roAt] at hx
    rcases hx with ⟨a, c, hy, hsp, hX, hc, hcl⟩ | ⟨h0, a, hy⟩
    · cases hy
      obtain ⟨l, hh, m, m', hrun, hk, h1, h2, h3, h4, h5⟩ := boundsA_ok' (P := P) (isSlice := true) hlo hhi hmx (Nat.le_refl _) hcl e2
      have hk := Option.some.inj hk
      subst hk
      refine ⟨_, ?_, roAt_sub (m := m') hsp hX hc h1 (by omega) (by omega)⟩
      have : (if m' = l then some a else some (a.add (l * 1))) = some (if m' = l then a else a.add (l * 1)) := by split <;> rfl
      rw [← this]
      simp [Instr.sliceAt, Instr.slice, run_und hu, hrun, run_sz hs]
    · cases hy
      have hal : al = [] := List.eq_nil_of_length_eq_zero h0
      subst hal
      obtain ⟨l, hh, m, hrun, hk, h1, h2, h3⟩ := boundsA_ok (P := P) (isSlice := true) hlo hhi hmx (Nat.le_refl _) e2
      have hk := Option.some.inj hk
      subst hk
      simp at h3
      have : l = 0 := by omega
      have : hh = 0 := by omega
      subst l hh m
      refine ⟨.slice a 0 0, ?_, ?_⟩
      · simp at hrun; cases a <;> simp [Instr.sliceAt, Instr.slice, run_und hu, hrun, run_sz hs]
      · simp only [AV.relV, AV.rel, roAt]
        right; simp
  · cases e

def arrayAtA (P : Program) (t : TypeId) (x : AV) : Option AV :=
  match elemT P t, x with
  | .arr n _ _ _, .sl b base _ off len _ => oguard (n ≤ len ∧ 0 < n) (some (.ptr b base off))
  | .arr n sz _ _, .roI k l => oguard (sz = 1 ∧ n ≤ l.length ∧ 0 < n) (some (.rop (.arr n k (l.take n))))
  | _, _ => none

theorem arrayAtA_ok {t : TypeId} {x v : AV} {y : Value} (hx : AV.relV X w ρ x y) (e : arrayAtA P t x = some v) :
    ∃ z, (Instr.arrayAt t y).run P w = .ok z w ∧ AV.relV X w ρ v z := by
  unfold arrayAtA at e
  have hE := elemT_is (P := P) t
  split at e
  · rename_i n sz g ints b base sz' off len cap heq
    rw [heq] at hE
    cases hE with
    | arr hu hs hg =>
    obtain ⟨⟨h1, h0⟩, e⟩ := oguard_some e
    have e := Option.some.inj e
    subst e
    simp only [AV.relV, AV.rel] at hx
    rcases hx with ⟨r, o, hr, hy, hrm, hcap, hlc⟩ | ⟨hr, hy, h3, h4⟩
    · cases hy
      rcases hcap with hcap | ⟨rfl, _⟩
      · omega
      · refine ⟨_, by simp only [Instr.arrayAt, Sem.run_bind, run_und hu, Result.andThen_ok, Sem.run_ite]; rw [if_neg (by omega)]; rfl, ?_⟩
        simp only [AV.relV, AV.rel]
        exact ⟨r, hr, rfl⟩
    · omega
  · rename_i n sz g ints kk l heq
    rw [heq] at hE
    cases hE with
    | arr hu hs hg =>
    obtain ⟨⟨h2, h1, h0⟩, e⟩ := oguard_some e
    have e := Option.some.inj e
    subst e
    simp only [AV.relV, AV.rel, roAt] at hx
    rcases hx with ⟨a, c, hy, hsp, hX, hc, hcl⟩ | ⟨h0, _, hy⟩
    · cases hy
      refine ⟨_, by simp only [Instr.arrayAt, Sem.run_bind, run_und hu, Result.andThen_ok, Sem.run_ite]; rw [if_neg (by omega)]; rfl, ?_⟩
      simp only [AV.relV, AV.rel]
      have := hc.part hsp 0 n (by simp)
      refine ⟨a, _, rfl, hsp, hX, ⟨rfl, by simp; omega⟩, ?_⟩
      simpa [Addr.add, List.map_take] using this.1
    · omega
  · cases e
end
end Go.Ax

namespace Go.Ax
section
variable {P : Program} {X : Nat → Prop} {ρ : List (Option Nat)} {h : List Blk} {w : World}

theorem intBin_ok {op : BinOp} {t : TypeId} {k : IntKind} {a b : Int} {v : AV} (hop : op ≠ .shl ∧ op ≠ .shr) (e : intBin op k a b = some v) :
    ∃ z, (binOp op t (.int k a) (.int k b)).run P w = .ok z w ∧ AV.relV X w ρ v z := by
  cases op <;> simp only [intBin] at e <;> first
    | (exact absurd rfl hop.1)
    | (exact absurd rfl hop.2)
    | (cases e; refine ⟨_, ?_, by simp only [AV.relV, AV.rel]; exact ⟨rfl, rfl⟩⟩; simp [binOp, Op.intArith, Op.intBits, Op.intCmp]; done)
    | (obtain ⟨hb, e⟩ := oguard_some e; cases e; refine ⟨_, ?_, by simp only [AV.relV, AV.rel]; exact ⟨rfl, rfl⟩⟩; simp [binOp, Op.intDiv, hb]; done)

theorem run_shl {t : TypeId} {k k' : IntKind} {a b : Int} (hb : 0 ≤ b) : (binOp .shl t (.int k a) (.int k' b)).run P w = .ok (.int k (shl k a b)) w := by
  simp only [binOp, Op.shift, Sem.run_ite]; rw [if_neg (by omega)]; rfl
theorem run_shr {t : TypeId} {k k' : IntKind} {a b : Int} (hb : 0 ≤ b) : (binOp .shr t (.int k a) (.int k' b)).run P w = .ok (.int k (shr k a b)) w := by
  simp only [binOp, Op.shift, Sem.run_ite]; rw [if_neg (by omega)]; rfl

theorem kindT_int {t : TypeId} {k : IntKind} (e : kindT P t = .int k) : P.underlying t = some (.int k) := by
  unfold kindT at e; split at e <;> simp_all
theorem kindT_bool {t : TypeId} (e : kindT P t = .bool) : P.underlying t = some .bool := by
  unfold kindT at e; split at e <;> simp_all
theorem kindT_string {t : TypeId} (e : kindT P t = .string) : P.underlying t = some .string := by
  unfold kindT at e; split at e <;> simp_all
theorem kindT_pointer {t : TypeId} (e : kindT P t = .pointer) : ∃ a, P.underlying t = some (.pointer a) := by
  unfold kindT at e; split at e <;> simp_all
theorem kindT_bytes {t : TypeId} (e : kindT P t = .slice true) : ∃ a, P.underlying t = some (.slice a) ∧ P.underlying a = some (.int .u8) := by
  unfold kindT at e
  split at e <;> first | (cases e; done) | skip
  rename_i a hu
  refine ⟨a, hu, ?_⟩
  split at e
  · assumption
  · cases e

theorem eqGuard_ok {op : BinOp} {t : TypeId} {x y : Operand} {a b : Value} (ha : flat a = true) (hn : a ≠ .nilIface) : (eqGuard op t x y a b).run P w = .ok () w := by
  unfold eqGuard
  cases a <;> simp [flat] at ha <;> first
    | (cases op <;> rfl)
    | exact absurd rfl hn

theorem v_rel {x : Value} (h : flat x = true) : AV.relV X w ρ (.v x) x := by simp only [AV.relV, AV.rel]; exact ⟨trivial, h⟩

theorem run_equal_of {t : TypeId} {a b : Value} {r : Bool} (h : ∀ d, (Op.equalIn (d + 1) t a b).run P w = .ok r w) : (Op.equal t a b).run P w = .ok r w := h 9999
theorem run_equal_of2 {t : TypeId} {a b : Value} {r : Bool} (h : ∀ d, (Op.equalIn (d + 2) t a b).run P w = .ok r w) : (Op.equal t a b).run P w = .ok r w := h 9998

theorem equal_bool {t : TypeId} (hu : P.underlying t = some .bool) (a b : Bool) : (Op.equal t (.bool a) (.bool b)).run P w = .ok (a == b) w :=
  run_equal_of fun d => by simp only [Op.equalIn, Sem.run_bind, run_und hu, Result.andThen_ok]; rfl
theorem equal_nilp {t e : TypeId} (hu : P.underlying t = some (.pointer e)) (b : Option Addr) : (Op.equal t (.pointer none) (.pointer b)).run P w = .ok b.isNone w :=
  run_equal_of fun d => by simp only [Op.equalIn, Sem.run_bind, run_und hu, Result.andThen_ok]; rfl
theorem equal_pnil {t e : TypeId} (hu : P.underlying t = some (.pointer e)) (a : Addr) : (Op.equal t (.pointer (some a)) (.pointer none)).run P w = .ok false w :=
  run_equal_of fun d => by simp only [Op.equalIn, Sem.run_bind, run_und hu, Result.andThen_ok]; rfl

theorem run_eql {t : TypeId} {a b : Value} {r : Bool} (h : (Op.equal t a b).run P w = .ok r w) (ha : ∀ k n, a ≠ .int k n) (hf : ∀ k n, a ≠ .float k n) (hc : ∀ k n m, a ≠ .complex k n m)
    (hs : ∀ s, a ≠ .string s) : (binOp .eql t a b).run P w = .ok (.bool r) w ∧ (binOp .neq t a b).run P w = .ok (.bool (!r)) w := by
  have e1 : binOp .eql t a b = (do pure (.bool (← Op.equal t a b))) := by
    cases a <;> cases b <;> first | rfl | exact absurd rfl (ha _ _) | exact absurd rfl (hf _ _) | exact absurd rfl (hc _ _ _) | exact absurd rfl (hs _)
  have e2 : binOp .neq t a b = (do pure (.bool (!(← Op.equal t a b)))) := by
    cases a <;> cases b <;> first | rfl | exact absurd rfl (ha _ _) | exact absurd rfl (hf _ _) | exact absurd rfl (hc _ _ _) | exact absurd rfl (hs _)
  rw [e1, e2]
  simp only [Sem.run_bind, h, Result.andThen_ok]
  exact ⟨rfl, rfl⟩

theorem bin_bool {t : TypeId} {x y : Operand} {a b : Bool} {a1 b1 : Value} (hk : kindT P t = .bool) (hx : AV.relV X w ρ (.v (.bool a)) a1) (hy : AV.relV X w ρ (.v (.bool b)) b1) :
    ((eqGuard .eql t x y a1 b1).run P w = .ok () w ∧ ∃ z, (binOp .eql t a1 b1).run P w = .ok z w ∧ AV.relV X w ρ (.v (.bool (a == b))) z) ∧
    ((eqGuard .neq t x y a1 b1).run P w = .ok () w ∧ ∃ z, (binOp .neq t a1 b1).run P w = .ok z w ∧ AV.relV X w ρ (.v (.bool (!(a == b)))) z) := by
  have hu := kindT_bool hk
  simp only [AV.relV, AV.rel] at hx hy
  cases hx.1; cases hy.1
  have h2 := run_eql (equal_bool (w := w) hu a b) (by simp) (by simp) (by simp) (by simp)
  exact ⟨⟨eqGuard_ok rfl (by simp), _, h2.1, v_rel rfl⟩, ⟨eqGuard_ok rfl (by simp), _, h2.2, v_rel rfl⟩⟩

theorem bin_pnil {t : TypeId} {x y : Operand} {b base i : Nat} {a1 b1 : Value} (hk : kindT P t = .pointer) (hx : AV.relV X w ρ (.ptr b base i) a1) (hy : AV.relV X w ρ (.v (.pointer none)) b1) :
    ((eqGuard .eql t x y a1 b1).run P w = .ok () w ∧ ∃ z, (binOp .eql t a1 b1).run P w = .ok z w ∧ AV.relV X w ρ (.v (.bool false)) z) ∧
    ((eqGuard .neq t x y a1 b1).run P w = .ok () w ∧ ∃ z, (binOp .neq t a1 b1).run P w = .ok z w ∧ AV.relV X w ρ (.v (.bool true)) z) := by
  obtain ⟨q, hu⟩ := kindT_pointer hk
  simp only [AV.relV, AV.rel] at hx hy
  cases hy.1
  obtain ⟨r, hr, hx⟩ := hx
  cases hx
  have h2 := run_eql (equal_pnil (w := w) hu ⟨r, base + i, none⟩) (by simp) (by simp) (by simp) (by simp)
  exact ⟨⟨eqGuard_ok rfl (by simp), _, h2.1, v_rel rfl⟩, ⟨eqGuard_ok rfl (by simp), _, h2.2, v_rel rfl⟩⟩

theorem bin_nilnil {t : TypeId} {x y : Operand} {a1 b1 : Value} (hk : kindT P t = .pointer) (hx : AV.relV X w ρ (.v (.pointer none)) a1) (hy : AV.relV X w ρ (.v (.pointer none)) b1) :
    ((eqGuard .eql t x y a1 b1).run P w = .ok () w ∧ ∃ z, (binOp .eql t a1 b1).run P w = .ok z w ∧ AV.relV X w ρ (.v (.bool true)) z) ∧
    ((eqGuard .neq t x y a1 b1).run P w = .ok () w ∧ ∃ z, (binOp .neq t a1 b1).run P w = .ok z w ∧ AV.relV X w ρ (.v (.bool false)) z) := by
  obtain ⟨q, hu⟩ := kindT_pointer hk
  simp only [AV.relV, AV.rel] at hx hy
  cases hy.1; cases hx.1
  have h2 := run_eql (equal_nilp (w := w) hu none) (by simp) (by simp) (by simp) (by simp)
  exact ⟨⟨eqGuard_ok rfl (by simp), _, h2.1, v_rel rfl⟩, ⟨eqGuard_ok rfl (by simp), _, h2.2, v_rel rfl⟩⟩

theorem ints_all (f : Int → Int → Bool) : ∀ (xs ys : List Int), xs.length = ys.length → (List.range' 0 xs.length 1).all (fun i => xs.getD i 0 == ys.getD i 0) = (xs == ys)
  | [], [], _ => rfl
  | [], _ :: _, h => by simp at h
  | _ :: _, [], h => by simp at h
  | x :: xs, y :: ys, h => by
    have ih := ints_all f xs ys (by simpa using h)
    rw [List.length_cons, List.range'_succ, List.all_cons]
    have h1 : (List.range' (0 + 1) xs.length 1).all (fun i => (x :: xs).getD i 0 == (y :: ys).getD i 0) = (List.range' 0 xs.length 1).all (fun i => xs.getD i 0 == ys.getD i 0) := by
      rw [show List.range' (0 + 1) xs.length 1 = (List.range' 0 xs.length 1).map (1 + ·) from by rw [List.map_add_range']]
      rw [List.all_map]
      congr 1
      funext i
      simp [Nat.add_comm 1 i]
    rw [h1, ih]
    simp only [List.getD_cons_zero]
    rfl

theorem equal_ints {t e : TypeId} {n : Nat} {k : IntKind} (ht : P.underlying t = some (.array n e)) (he : P.underlying e = some (.int k)) (hs : szT P e = some 1)
    (xs ys : List Int) (hx : xs.length = n) (hy : ys.length = n) (d : Nat) :
    (Op.equalIn (d + 2) t (.agg (xs.map (Value.int k)).toArray) (.agg (ys.map (Value.int k)).toArray)).run P w = .ok (xs == ys) w := by
  have hsz : (sizeOf e).run P w = .ok 1 w := run_sz hs w
  rw [← ints_all (fun _ _ => true) xs ys (hx.trans hy.symm), hx, Op.equalIn]
  simp only [Sem.run_bind, run_und ht, Result.andThen_ok, hsz, Std.Legacy.Range.forIn_eq_forIn_range', Std.Legacy.Range.size, Nat.sub_zero, Nat.add_sub_cancel, Nat.div_one]
  have hl : ∀ i ∈ List.range' 0 n 1, i < n := fun i hi => by simpa using (List.mem_range'_1.1 hi).2
  generalize List.range' 0 n 1 = l at hl ⊢
  induction l with
  | nil => simp
  | cons i l ih =>
    have hi : i < n := hl i (by simp)
    have px : (part e (xs.map (Value.int k)).toArray (i * 1)).run P w = .ok (.int k (xs.getD i 0)) w := by
      simp [part, isAgg, run_und he, List.getD, List.getElem?_eq_getElem (show i < xs.length by omega)]
    have py : (part e (ys.map (Value.int k)).toArray (i * 1)).run P w = .ok (.int k (ys.getD i 0)) w := by
      simp [part, isAgg, run_und he, List.getD, List.getElem?_eq_getElem (show i < ys.length by omega)]
    have pe : (Op.equalIn (d + 1) e (.int k (xs.getD i 0)) (.int k (ys.getD i 0))).run P w = .ok (xs.getD i 0 == ys.getD i 0) w := by
      simp [Op.equalIn, run_und he]
    simp only [List.forIn_cons, Sem.run_bind, px, py, pe, Result.andThen_ok, List.all_cons]
    cases hb : (xs.getD i 0 == ys.getD i 0)
    · simp
    · simp only [Bool.not_true, Bool.false_eq_true, if_false, Sem.run_pure, Result.andThen_ok, Bool.true_and]
      exact ih fun j hj => hl j (by simp [hj])

theorem bin_arrs {t : TypeId} {x y : Operand} {n m : Nat} {k k' : IntKind} {l l' : List Int} {a1 b1 : Value} (hk : eqArrT P t = some (n, k) ∧ n = m ∧ k = k') (hx : AV.relV X w ρ (.arr n k l) a1) (hy : AV.relV X w ρ (.arr m k' l') b1) :
    ((eqGuard .eql t x y a1 b1).run P w = .ok () w ∧ ∃ z, (binOp .eql t a1 b1).run P w = .ok z w ∧ AV.relV X w ρ (.v (.bool (l == l'))) z) ∧
    ((eqGuard .neq t x y a1 b1).run P w = .ok () w ∧ ∃ z, (binOp .neq t a1 b1).run P w = .ok z w ∧ AV.relV X w ρ (.v (.bool (!(l == l')))) z) := by
  obtain ⟨h1, rfl, rfl⟩ := hk
  simp only [AV.relV] at hx hy
  obtain ⟨rfl, hx⟩ := hx
  obtain ⟨rfl, hy⟩ := hy
  unfold eqArrT at h1
  split at h1
  · rename_i n0 e hu
    split at h1
    · rename_i k0 he hs
      split at h1
      · rename_i hg
        simp only [Option.some.injEq, Prod.mk.injEq] at h1
        obtain ⟨rfl, rfl⟩ := h1
        have h2 := run_eql (run_equal_of2 fun d => equal_ints (w := w) hu he hs l l' hx hy d) (by simp) (by simp) (by simp) (by simp)
        exact ⟨⟨run_eqGuard_agg w _ t x y _ _ hg, _, h2.1, v_rel rfl⟩, ⟨run_eqGuard_agg w _ t x y _ _ hg, _, h2.2, v_rel rfl⟩⟩
      · cases h1
    · cases h1
  · cases h1

theorem binA_ok {op : BinOp} {t : TypeId} {x y : Operand} {ax ay v : AV} {a b : Value} (hx : AV.relV X w ρ ax a) (hy : AV.relV X w ρ ay b) (e : binA P op t ax ay = some v) :
    (eqGuard op t x y a b).run P w = .ok () w ∧ ∃ z, (binOp op t a b).run P w = .ok z w ∧ AV.relV X w ρ v z := by
  unfold binA at e
  split at e
  · obtain ⟨hb, e⟩ := oguard_some e
    cases e
    simp only [AV.relV, AV.rel] at hx hy
    cases hx.1; cases hy.1
    exact ⟨eqGuard_ok rfl (by simp), _, run_shl hb, v_rel rfl⟩
  · obtain ⟨hb, e⟩ := oguard_some e
    cases e
    simp only [AV.relV, AV.rel] at hx hy
    cases hx.1; cases hy.1
    exact ⟨eqGuard_ok rfl (by simp), _, run_shr hb, v_rel rfl⟩
  · rename_i op k a' k' b' hn1 hn2
    split at e
    · rename_i hk
      subst hk
      simp only [AV.relV, AV.rel] at hx hy
      cases hx.1; cases hy.1
      refine ⟨eqGuard_ok rfl (by simp), ?_⟩
      refine intBin_ok ⟨?_, ?_⟩ e
      · rintro rfl; simp_all
      · rintro rfl; simp_all
    · cases e
  all_goals first
    | (cases e; done)
    | (simp only [AV.relV, AV.rel] at hx hy
       cases hx.1; cases hy.1
       cases e
       refine ⟨eqGuard_ok rfl (by simp), _, ?_, v_rel rfl⟩
       simp [binOp, Op.stringOp]
       done)
    | (split at e
       · rename_i hk
         have h2 := bin_bool (x := x) (y := y) hk hx hy
         cases e
         first | exact h2.1 | exact h2.2
       · cases e; done)
    | (split at e
       · rename_i hk
         have h2 := bin_nilnil (x := x) (y := y) hk hx hy
         cases e
         first | exact h2.1 | exact h2.2
       · cases e; done)
    | (split at e
       · rename_i hk
         have h2 := bin_pnil (x := x) (y := y) hk hx hy
         cases e
         first | exact h2.1 | exact h2.2
       · cases e; done)
    | (split at e
       · rename_i hk
         have h2 := bin_arrs (x := x) (y := y) hk hx hy
         cases e
         first | exact h2.1 | exact h2.2
       · cases e; done)

def unA (op : UnOp) : AV → Option AV
  | .v (.int k n) => match op with
    | .neg => some (.v (.int k (k.wrap (0 - n))))
    | .xor => intBin .xor k (if k.signed then -1 else k.max) n
    | _ => none
  | .v (.bool b) => match op with
    | .not => some (.v (.bool (!b)))
    | _ => none
  | _ => none

theorem unA_ok {op : UnOp} {ax v : AV} {a : Value} (hx : AV.relV X w ρ ax a) (e : unA op ax = some v) :
    ∃ z, (Op.unary op a).run P w = .ok z w ∧ AV.relV X w ρ v z := by
  unfold unA at e
  split at e
  · simp only [AV.relV, AV.rel] at hx
    cases hx.1
    split at e
    · cases e
      exact ⟨_, by simp [Op.unary, Op.intArith], v_rel rfl⟩
    · cases e
      exact ⟨_, by simp [Op.unary, Op.intBits], v_rel rfl⟩
    · cases e
  · simp only [AV.relV, AV.rel] at hx
    cases hx.1
    split at e
    · cases e
      exact ⟨_, by simp [Op.unary], v_rel rfl⟩
    · cases e
  · cases e

def convA (P : Program) (h : List Blk) (src dst : TypeId) (x : AV) : Option AV :=
  match x with
  | .v (.int _ n) => match kindT P src, kindT P dst with
    | .int _, .int k => some (.v (.int k (k.wrap n)))
    | _, _ => none
  | .v (.string s) => match kindT P src, kindT P dst with
    | .string, .string => some (.v (.string s))
    | _, _ => none
  | x => match kindT P src, kindT P dst with
    | .slice true, .string => (intsOf h x).bind fun (k, l) => if k = .u8 then some (.v (.string (bytesOf l))) else none
    | _, _ => none

theorem bytes_loop {f : Value → ByteArray → Sem (ForInStep ByteArray)} (hf : ∀ n s, f (.int .u8 n) s = pure (.yield (s.push (UInt8.ofNat n.toNat)))) :
    ∀ (l : List Int) (s : ByteArray), Sem.run P (forIn (l.map (Value.int .u8)) s f) w = .ok ⟨s.data ++ (l.map fun n => UInt8.ofNat n.toNat).toArray⟩ w
  | [], s => by simp
  | n :: l, s => by
    have := bytes_loop hf l (s.push (UInt8.ofNat n.toNat))
    simp only [List.map_cons, List.forIn_cons, Sem.run_bind, hf, Sem.run_pure, Result.andThen_ok]
    rw [this]
    congr 1
    congr 1
    simp [ByteArray.push]
end
end Go.Ax

namespace Go.Ax
section
variable {P : Program} {X : Nat → Prop} {ρ : List (Option Nat)} {h : List Blk} {w : World}

theorem bytesOf_str (s : ByteArray) : bytesOf (strOf s) = s := by
  unfold bytesOf strOf
  have : (s.data.toList.map fun b => (b.toNat : Int)).map (fun n => UInt8.ofNat n.toNat) = s.data.toList := by
    rw [List.map_map]
    conv => rhs; rw [← List.map_id s.data.toList]
    apply List.map_congr_left
    intro b _
    simp
  rw [this]

theorem run_bytesToString {y : Value} {l : List Int} (h : (∃ a cap, y = .slice (some a) l.length cap ∧ (loadCells a l.length).run P w = .ok (l.map (Value.int .u8)).toArray w) ∨ (l = [] ∧ y = .slice none 0 0)) :
    (Conv.bytesToString y).run P w = .ok (.string (bytesOf l)) w := by
  rcases h with ⟨a, cap, rfl, hl⟩ | ⟨rfl, rfl⟩
  · simp only [Conv.bytesToString, Sem.run_bind, hl, Result.andThen_ok]
    rw [List.forIn_toArray, bytes_loop (fun _ _ => rfl)]
    simp [bytesOf, ByteArray.empty, ByteArray.emptyWithCapacity]
    rfl
  · simp [Conv.bytesToString, bytesOf]
    rfl

theorem convA_ok (hh : HRel X ρ h w) {src dst : TypeId} {x v : AV} {y : Value} (hx : AV.relV X w ρ x y) (e : convA P h src dst x = some v) :
    ∃ z, (convert src dst y).run P w = .ok z w ∧ AV.relV X w ρ v z := by
  unfold convA at e
  split at e
  · simp only [AV.relV, AV.rel] at hx
    cases hx.1
    split at e
    · rename_i h1 h2
      cases e
      exact ⟨_, by simp only [convert, Sem.run_bind, run_und (kindT_int h1), run_und (kindT_int h2), Result.andThen_ok]; rfl, v_rel rfl⟩
    · cases e
  · simp only [AV.relV, AV.rel] at hx
    cases hx.1
    split at e
    · rename_i h1 h2
      cases e
      exact ⟨_, by simp only [convert, Sem.run_bind, run_und (kindT_string h1), run_und (kindT_string h2), Result.andThen_ok]; rfl, v_rel rfl⟩
    · cases e
  · rename_i hn1 hn2
    split at e
    · rename_i h1 h2
      obtain ⟨⟨k, l⟩, hi, e⟩ := Option.bind_eq_some_iff.1 e
      simp only at e
      split at e
      · rename_i hk
        subst hk
        cases e
        obtain ⟨q, hu1, hu2⟩ := kindT_bytes h1
        have hr : (∃ a cap, y = .slice (some a) l.length cap ∧ (loadCells a l.length).run P w = .ok (l.map (Value.int .u8)).toArray w) ∨ (l = [] ∧ y = .slice none 0 0) := by
          rcases intsOf_ok hh hx hi with ⟨a, c, h1, h2⟩ | h | ⟨s, hy, _, _⟩
          · exact .inl ⟨a, c, h1, ints_run h2⟩
          · exact .inr h
          · exfalso
            subst hy
            cases x <;> simp only [AV.relV, AV.rel, roAt] at hx <;> simp [intsOf] at hi
            · cases hx.1; exact hn2 _ rfl
            · rcases hx with ⟨r, o, _, h, _⟩ | ⟨_, h, _⟩ <;> cases h
            · rcases hx with ⟨r, o, h, _⟩ | ⟨_, _, h⟩ <;> cases h
        refine ⟨.string (bytesOf l), ?_, v_rel rfl⟩
        have hc : (convert src dst y).run P w = (Conv.bytesToString y).run P w := by
          have hy : ∃ a n c, y = .slice a n c := by
            rcases hr with ⟨a, c, h, _⟩ | ⟨_, h⟩
            · exact ⟨_, _, _, h⟩
            · exact ⟨_, _, _, h⟩
          obtain ⟨a, n, c, rfl⟩ := hy
          simp only [convert, Sem.run_bind, run_und hu1, run_und (kindT_string h2), Result.andThen_ok, run_und hu2]
        rw [hc]
        exact run_bytesToString hr
      · cases e
    · cases e
end
end Go.Ax

namespace Go.Ax

def veq : Value → Value → Bool
  | .int k a, .int k' b => k = k' && a = b
  | .bool a, .bool b => a = b
  | .string a, .string b => a = b
  | .pointer none, .pointer none => true
  | .slice none a b, .slice none c d => a = c && b = d
  | .map none, .map none => true
  | .nilFunc, .nilFunc => true
  | .nilIface, .nilIface => true
  | _, _ => false

theorem veq_ok {a b : Value} (h : veq a b = true) : a = b ∧ flat a = true := by
  unfold veq at h
  split at h <;> simp_all [flat]

def cellsEq : List AV → List Value → Bool
  | [], [] => true
  | .v x :: ps, y :: ys => veq x y && cellsEq ps ys
  | .arr n k l :: ps, ys => decide (l.length = n) && decide (n ≤ ys.length) && ((ys.take n).zip l).all (fun (y, i) => veq (.int k i) y) && cellsEq ps (ys.drop n)
  | _, _ => false

section
variable {P : Program} {X : Nat → Prop} {w : World} {ρ : List (Option Nat)}

theorem ints_eq {k : IntKind} : ∀ {l : List Int} {ys : List Value}, ys.length = l.length → ((ys.zip l).all (fun (y, i) => veq (.int k i) y)) = true → ys = l.map (Value.int k)
  | [], [], _, _ => rfl
  | i :: l, y :: ys, hl, h => by
    simp only [List.zip_cons_cons, List.all_cons, Bool.and_eq_true] at h
    simp only [List.map_cons]
    rw [← (veq_ok h.1).1, ← ints_eq (by simpa using hl) h.2]
  | [], _ :: _, hl, _ => by simp at hl
  | _ :: _, [], hl, _ => by simp at hl

theorem cellsEq_ok : ∀ {ps : List AV} {cs : List Value}, cellsEq ps cs = true → relAll X w ρ ps cs
  | [], [], _ => by simp [relAll]
  | [], _ :: _, h => by simp [cellsEq] at h
  | p :: ps, cs, h => by
    unfold cellsEq at h
    split at h
    · exact absurd ‹p :: ps = []› (by simp)
    · rename_i heq; cases heq
      simp only [Bool.and_eq_true] at h
      obtain ⟨h1, h2⟩ := h
      obtain ⟨rfl, hf⟩ := veq_ok h1
      refine relAll_mk (a := [_]) rfl ?_ (cellsEq_ok h2)
      simp only [AV.rel]; exact ⟨trivial, hf⟩
    · rename_i heq; cases heq
      simp only [Bool.and_eq_true, decide_eq_true_eq] at h
      obtain ⟨⟨⟨h1, h2⟩, h3⟩, h4⟩ := h
      refine relAll_mk (List.take_append_drop _ _).symm ?_ (cellsEq_ok h4)
      simp only [AV.rel]
      exact ⟨ints_eq (by simp [h1]; omega) h3, h1⟩
    · cases h
end

def zrow (P : Program) : Nat → TypeId → List AV
  | 0, _ => []
  | d + 1, t =>
    match P.underlying t with
    | some (.array n e) =>
      match P.underlying e with
      | some (.int k) => [.arr n k (List.replicate n 0)]
      | _ => (List.replicate n (zrow P d e)).flatten
    | some (.struct fs) => (fs.toList.map fun f => zrow P d f.type).flatten
    | _ =>
      match (P.info? t).bind (·.zero) with
      | some z => [.v z]
      | none => []

def zeroT (P : Program) (t : TypeId) : Option (List AV) :=
  match (P.info? t).bind (·.zero) with
  | some z => if cellsEq (zrow P 8 t) z.cells.toList then some (zrow P 8 t) else none
  | none => none

def rowOf (x : AV) : Option (List AV) := if x.isAggV then some x.parts else if x.solid then some [x] else none

def zerosT (P : Program) (t : TypeId) (c : Nat) : Option (List AV) :=
  match zeroT P t, szT P t with
  | some [.v (.int k z)], some 1 => some [.arr c k (List.replicate c z)]
  | some [.v z], some 1 => some [.lst 1 (List.replicate c (.v z))]
  | some [.arr n k l], some s => if n = s then some [.arr (c * n) k (List.replicate c l).flatten] else none
  | some ps, some s => if psize ps = s ∧ s ≠ 1 then some [.lst s (List.replicate c (.agg ps))] else none
  | _, _ => none

section
variable {P : Program} {X : Nat → Prop} {w : World} {ρ : List (Option Nat)}

theorem zeroT_ok {t : TypeId} {ps : List AV} (h : zeroT P t = some ps) : ∃ i z, P.info? t = some i ∧ i.zero = some z ∧ ∀ X w ρ, relAll X w ρ ps z.cells.toList := by
  unfold zeroT at h
  split at h
  · rename_i z hz
    obtain ⟨i, hi, hz⟩ := Option.bind_eq_some_iff.1 hz
    split at h
    · rename_i hc
      cases h
      exact ⟨i, z, hi, hz, fun _ _ _ => cellsEq_ok hc⟩
    · cases h
  · cases h

theorem range_mod (zs : Array Value) : ∀ c : Nat, ((List.range (c * zs.size)).map fun i => zs[i % zs.size]!) = (List.replicate c zs.toList).flatten
  | 0 => by simp
  | c + 1 => by
    have ih := range_mod zs c
    rw [Nat.succ_mul, Nat.add_comm, List.range_add, List.map_append, List.replicate_succ, List.flatten_cons, ← ih, List.map_map]
    congr 1
    · apply List.ext_getElem
      · simp
      · intro i h1 h2
        simp at h1 h2
        simp [Nat.mod_eq_of_lt h1, h1]
    · apply List.map_congr_left
      intro i _
      simp

theorem relAll_replicate {ps : List AV} {cs : List Value} (h : relAll X w ρ ps cs) : ∀ c : Nat, relAll X w ρ (List.replicate c (AV.agg ps)) (List.replicate c cs).flatten
  | 0 => by simp [relAll]
  | c + 1 => by
    rw [List.replicate_succ, List.replicate_succ, List.flatten_cons]
    exact relAll_mk rfl (by simp only [AV.rel]; exact h) (relAll_replicate h c)

theorem relAll_replicate_v {x : Value} (h : flat x = true) : ∀ c : Nat, relAll X w ρ (List.replicate c (AV.v x)) (List.replicate c x)
  | 0 => by simp [relAll]
  | c + 1 => by
    rw [List.replicate_succ, List.replicate_succ]
    exact relAll_mk (a := [x]) rfl (by simp only [AV.rel]; exact ⟨trivial, h⟩) (relAll_replicate_v h c)

theorem flat_rep {α : Type} (x : α) (c : Nat) : (List.replicate c [x]).flatten = List.replicate c x := by
  induction c with
  | zero => rfl
  | succ c ih => rw [List.replicate_succ, List.flatten_cons, ih]; rfl

theorem zerosT_ok {t : TypeId} {c : Nat} {ps : List AV} (h : zerosT P t c = some ps) :
    ∃ i z, P.info? t = some i ∧ i.zero = some z ∧ z.cells.size = i.size ∧ ∀ X w ρ, relAll X w ρ ps (List.replicate c z.cells.toList).flatten := by
  unfold zerosT at h
  split at h
  · rename_i k z hz hs
    obtain ⟨i, zz, hi, hzz, hr⟩ := zeroT_ok hz
    cases h
    have h0 := hr (fun _ => False) default []
    rw [relAll_one] at h0
    simp only [AV.rel] at h0
    have hsz : i.size = 1 := by simpa [szT, hi] using hs
    refine ⟨i, zz, hi, hzz, ?_, ?_⟩
    · rw [hsz, ← Array.length_toList, h0.1]; rfl
    · intro X w ρ
      rw [h0.1, flat_rep, relAll_one]
      simp only [AV.rel]
      simp
  · rename_i z _ hz hs
    obtain ⟨i, zz, hi, hzz, hr⟩ := zeroT_ok hz
    cases h
    have h0 := hr (fun _ => False) default []
    rw [relAll_one] at h0
    simp only [AV.rel] at h0
    have hsz : i.size = 1 := by simpa [szT, hi] using hs
    refine ⟨i, zz, hi, hzz, ?_, ?_⟩
    · rw [hsz, ← Array.length_toList, h0.1]; rfl
    · intro X w ρ
      rw [h0.1, flat_rep, relAll_one]
      simp only [AV.rel]
      refine ⟨relAll_replicate_v h0.2 c, ?_⟩
      intro e he
      obtain ⟨_, rfl⟩ := List.mem_replicate.1 he
      simp [AV.size, AV.one]
  · rename_i n k l s hz hs
    split at h
    · rename_i hn
      cases h
      obtain ⟨i, zz, hi, hzz, hr⟩ := zeroT_ok hz
      have h0 := hr (fun _ => False) default []
      rw [relAll_one] at h0
      simp only [AV.rel] at h0
      have hsz : i.size = s := by simpa [szT, hi] using hs
      refine ⟨i, zz, hi, hzz, ?_, ?_⟩
      · rw [hsz, ← Array.length_toList, h0.1, ← hn, ← h0.2]; simp
      · intro X w ρ
        rw [h0.1, relAll_one]
        simp only [AV.rel]
        refine ⟨?_, ?_⟩
        · rw [List.map_flatten, List.map_replicate]
        · rw [List.length_flatten, List.map_replicate, h0.2, List.sum_replicate_nat]
    · cases h
  · rename_i ps' s _ _ _ hz hs
    split at h
    · rename_i hn
      cases h
      obtain ⟨i, zz, hi, hzz, hr⟩ := zeroT_ok hz
      have hsz : i.size = s := by simpa [szT, hi] using hs
      refine ⟨i, zz, hi, hzz, ?_, ?_⟩
      · have := relAll_len _ _ _ (hr (fun _ => False) default [])
        rw [hsz, ← hn.1, ← this]; simp
      · intro X w ρ
        rw [relAll_one]
        simp only [AV.rel]
        refine ⟨relAll_replicate (hr X w []) c, ?_⟩
        intro e he
        obtain ⟨_, rfl⟩ := List.mem_replicate.1 he
        exact ⟨by simp [AV.size, hn.1], fun h => absurd h hn.2⟩
    · cases h
  · cases h

theorem rowOf_ok {x : AV} {y : Value} {ps : List AV} (h : rowOf x = some ps) (hx : AV.relV X w ρ x y) : relAll X w ρ ps y.cells.toList := by
  unfold rowOf at h
  split at h
  · rename_i ha
    cases h
    obtain ⟨cs, rfl, hp, _⟩ := parts_rel ha hx
    exact hp
  · split at h
    · rename_i hs
      cases h
      have ho : x.one = true ∧ x ≠ .any := by cases x <;> simp_all [AV.solid, AV.one]
      have hr := rel_of_relV ho.1 ho.2 hx
      have hf := rel_flat ho.1 hr
      rw [relAll_one]
      cases y <;> simp [flat] at hf <;> exact hr
    · cases h
end
end Go.Ax

namespace Go.Ax

def placeA (P : Program) (t : TypeId) (i : Nat) : Option (Nat × Nat × Bool) :=
  match P.underlying t with
  | some (.array _ e) => match szT P e, aggT P e with
    | some s, some g => some (i * s, s, g)
    | _, _ => none
  | some (.struct fs) => match fs[i]? with
    | some f => match szT P f.type, aggT P f.type with
      | some s, some g => some (f.offset, s, g)
      | _, _ => none
    | none => none
  | _ => none

def sizedT (P : Program) (t : TypeId) : Bool :=
  match P.underlying t with
  | some (.array _ e) => (szT P e).isSome
  | some (.struct fs) => fs.toList.all fun f => (szT P f.type).isSome
  | _ => false

def layA (P : Program) (t : TypeId) : List (Nat × AV) → List AV → Option (List AV)
  | [], ps => some ps
  | (i, x) :: r, ps =>
    match placeA P t i with
    | some (off, s, g) => if x.size = s ∧ x.isAggV = g ∧ s ≠ 0 then (if g then rowPut ps off x else rowOr ps off x).bind (layA P t r) else none
    | none => none

def buildA (P : Program) (t : TypeId) (parts : List (Nat × AV)) : Option AV :=
  if sizedT P t then (zeroT P t).bind fun ps => (layA P t parts ps).map mkAgg else none

section
variable {P : Program} {X : Nat → Prop} {w : World} {ρ : List (Option Nat)}

theorem foldl_set (vs : List Value) : ∀ (o j : Nat) (c : Array Value), o + j + vs.length ≤ c.size →
    ((vs.zipIdx j).foldl (fun (cs : Array Value) (c, j) => cs.setIfInBounds (o + j) c) c).toList = c.toList.take (o + j) ++ vs ++ c.toList.drop (o + j + vs.length) := by
  induction vs with
  | nil => intro o j c _; simp
  | cons v vs ih =>
    intro o j c h
    simp only [List.length_cons] at h
    rw [List.zipIdx_cons, List.foldl_cons, ih o (j + 1) _ (by simp; omega)]
    rw [Array.toList_setIfInBounds]
    rw [List.take_set, List.drop_set]
    have h1 : o + j < c.toList.length := by simp; omega
    have h2 : (o + (j + 1)) = (o + j) + 1 := by omega
    rw [h2, List.take_add_one, List.getElem?_eq_getElem h1]
    have h3 : ¬ (o + j + 1 + vs.length ≤ o + j) := by omega
    simp only [Option.toList_some, List.length_cons]
    rw [List.set_append_right _ _ (by simp; omega)]
    have h4 : o + j - (List.take (o + j) c.toList).length = 0 := by simp; omega
    rw [h4]
    have h5 : o + j < o + j + 1 + vs.length := by omega
    rw [if_pos h5]
    simp
    congr 1
    omega

theorem lay_fill {t : TypeId} {e : Operand → AV} {rv : Operand → Value} (he : ∀ x, AV.relV X w ρ (e x) (rv x)) {place : Nat → Option (Nat × Nat)}
    (hp : ∀ i off s g, placeA P t i = some (off, s, g) → place i = some (off, s)) : ∀ (parts : List (Nat × Operand)) (ps qs : List AV) (cells : Array Value),
    relAll X w ρ ps cells.toList → layA P t (parts.map fun (i, x) => (i, e x)) ps = some qs →
    ∃ cells', Instr.fill place cells (parts.map fun (i, x) => (i, rv x)) = some cells' ∧ relAll X w ρ qs cells'.toList
  | [], ps, qs, cells, hc, hl => by
    simp only [List.map_nil, layA, Option.some.injEq] at hl
    subst hl
    exact ⟨cells, rfl, hc⟩
  | (i, x) :: r, ps, qs, cells, hc, hl => by
    simp only [List.map_cons] at hl ⊢
    unfold layA at hl
    split at hl
    · rename_i off s g hpl
      split at hl
      · rename_i hk
        obtain ⟨hs, hg, h0⟩ := hk
        obtain ⟨ps', hq, hl⟩ := Option.bind_eq_some_iff.1 hl
        have hx := he x
        have key : (rv x).cells.size = s ∧ off + s ≤ cells.size ∧ relAll X w ρ ps' (cells.toList.take off ++ (rv x).cells.toList ++ cells.toList.drop (off + s)) := by
          split at hq
          · obtain ⟨vs, hv, hvs, h3, h4⟩ := rowPut_rel hc hx hq
            rw [hv]
            have h5 : (Value.agg vs).cells = vs := rfl
            rw [h5, ← hs, ← hvs]
            refine ⟨rfl, ?_, h4⟩
            rcases h3 with h3 | h3
            · simpa using h3
            · omega
          · rename_i hgf
            obtain ⟨h1, hf, h3⟩ := rowOr_rel hc hx hq
            have hyc : (rv x).cells = #[rv x] := by
              revert hf; cases rv x <;> intro hf <;> first | rfl | cases hf
            have hone : (e x).size = 1 := by
              have hgf' : (e x).isAggV = false := by rw [hg]; simpa using hgf
              revert hx hgf'
              cases e x <;> intro hx hgf' <;> first | rfl | (simp [AV.isAggV] at hgf'; done) | skip
              simp only [AV.relV, AV.rel] at hx
              have := relAll_sizes_len hx.1 hx.2
              simpa [AV.size] using this.symm
            rw [hyc, ← hs, hone]
            refine ⟨rfl, by rw [Array.length_toList] at h1; exact h1, ?_⟩
            have : cells.toList.set off (rv x) = cells.toList.take off ++ [rv x] ++ cells.toList.drop (off + 1) := by
              rw [List.set_eq_take_append_cons_drop, if_pos h1]; simp
            rw [this] at h3
            exact h3
        obtain ⟨k1, k2, k3⟩ := key
        have hfold := foldl_set (rv x).cells.toList off 0 cells (by rw [Array.length_toList]; omega)
        simp only [Nat.add_zero, Array.length_toList, k1] at hfold
        rw [← hfold] at k3
        obtain ⟨cells', h6, h7⟩ := lay_fill he hp r ps' qs _ k3 hl
        refine ⟨cells', ?_, h7⟩
        rw [← h6]
        conv => lhs; unfold Instr.fill
        simp only [hp _ _ _ _ hpl]
        have h8 : ¬ ((decide ((rv x).cells.size ≠ s) || decide (off + (rv x).cells.size > cells.size)) = true) := by simp [k1]; omega
        rw [if_neg h8]
        congr 1
        rw [← Array.foldl_toList]
        congr 1
        rw [Array.toList_zipIdx]
      · cases hl
    · cases hl

theorem build_ok {e : Operand → AV} {rv : Operand → Value} (he : ∀ x, AV.relV X w ρ (e x) (rv x)) {t : TypeId} {parts : Array (Nat × Operand)} {v : AV}
    (hs : buildA P t (parts.toList.map fun (i, x) => (i, e x)) = some v) :
    ∃ z, (Instr.build t (parts.map fun (i, x) => (i, rv x))).run P w = .ok z w ∧ AV.relV X w ρ v z := by
  unfold buildA at hs
  split at hs
  · rename_i hsz
    obtain ⟨ps, hz, hs⟩ := Option.bind_eq_some_iff.1 hs
    obtain ⟨qs, hl, rfl⟩ := Option.map_eq_some_iff.1 hs
    obtain ⟨it, z, hi, hzz, hrel⟩ := zeroT_ok hz
    have hr := hrel X w ρ
    unfold sizedT at hsz
    split at hsz
    · rename_i n el hu
      obtain ⟨s, hs⟩ := Option.isSome_iff_exists.1 hsz
      unfold szT at hs
      obtain ⟨ie, hie, hies⟩ := Option.map_eq_some_iff.1 hs
      have hp : ∀ i off s g, placeA P t i = some (off, s, g) → (fun i => some (i * ie.size, ie.size)) i = some (off, s) := by
        intro i off s g h
        unfold placeA at h
        rw [hu] at h
        simp only [szT, hie, Option.map_some] at h
        split at h
        · rename_i h1 h2
          cases h1
          cases h; rfl
        · cases h
      obtain ⟨cells', h1, h2⟩ := lay_fill he hp parts.toList ps qs z.cells hr hl
      refine ⟨.agg cells', run_build w t _ cells' ?_, ?_⟩
      · unfold Program.built
        simp only [hi, hu, hzz, hie, Array.toList_map]
        exact h1
      · have := mkAgg_rel h2
        simpa using this
    · rename_i fs hu
      have hall : ∀ (fs : List Field), (fs.all fun f => (szT P f.type).isSome) = true → ∃ places : List (Nat × Nat), fs.mapM (fun f => (P.info? f.type).map fun i => (f.offset, i.size)) = some places ∧
          ∀ (i off s : Nat), ((fs[i]?).bind fun (f : Field) => (szT P f.type).map fun s => (f.offset, s)) = some (off, s) → places[i]? = some (off, s) := by
        intro fs
        induction fs with
        | nil => intro _; exact ⟨[], rfl, by intro i off s h; simp at h⟩
        | cons f fs ih =>
          intro h
          simp only [List.all_cons, Bool.and_eq_true] at h
          obtain ⟨places, h1, h2⟩ := ih h.2
          obtain ⟨s0, hs0⟩ := Option.isSome_iff_exists.1 h.1
          have hs0' := hs0
          unfold szT at hs0
          obtain ⟨ie, hie, hies⟩ := Option.map_eq_some_iff.1 hs0
          refine ⟨(f.offset, ie.size) :: places, by simp [List.mapM_cons, hie, h1], ?_⟩
          intro i off s hh
          cases i with
          | zero =>
            simp only [List.getElem?_cons_zero, Option.bind_some, hs0', Option.map_some, Option.some.injEq] at hh
            rw [List.getElem?_cons_zero, hies, ← hh]
          | succ i => simpa using h2 i off s (by simpa using hh)
      obtain ⟨places, h3, h4⟩ := hall fs.toList hsz
      have hp : ∀ i off s g, placeA P t i = some (off, s, g) → (places.toArray[·]?) i = some (off, s) := by
        intro i off s g h
        unfold placeA at h
        rw [hu] at h
        simp only at h
        have : ((fs.toList[i]?).bind fun (f : Field) => (szT P f.type).map fun s => (f.offset, s)) = some (off, s) := by
          rw [Array.getElem?_toList]
          split at h
          · rename_i f hf
            rw [hf]
            split at h
            · rename_i h1 h2
              cases h
              simp [h1]
            · cases h
          · cases h
        simpa using h4 i off s this
      obtain ⟨cells', h1, h2⟩ := lay_fill he hp parts.toList ps qs z.cells hr hl
      refine ⟨.agg cells', run_build w t _ cells' ?_, ?_⟩
      · unfold Program.built
        simp only [hi, hu, hzz, h3, Array.toList_map]
        exact h1
      · have := mkAgg_rel h2
        simpa using this
    · cases hsz
  · cases hs
end
end Go.Ax

namespace Go.Ax

def optA (e : Env) (o : Option Operand) : Option AV := o.map (ev e)

def minsA : List AV → Option AV
  | [.v (.int k a), .v (.int k' b)] => if k = k' then some (.v (.int k (if b < a then b else a))) else none
  | _ => none
def maxsA : List AV → Option AV
  | [.v (.int k a), .v (.int k' b)] => if k = k' then some (.v (.int k (if b > a then b else a))) else none
  | _ => none

def pairsA (P : Program) (t : TypeId) (e : Env) : List (Nat × Operand) → List AV → Option (List AV)
  | [], ps => some ps
  | (i, x) :: r, ps =>
    match P.underlying t with
    | some (.array _ el) =>
      match szT P el with
      | some s => (if s = 1 then rowSet ps i (ev e x) else rowPut ps (i * s) (ev e x)).bind (pairsA P t e r)
      | none => none
    | _ => none

def builtinR (P : Program) : Builtin → List AV → List TypeId → Option AV
  | .len, [x], [t] => match kindT P t with
    | .slice _ => (lenA x).map fun (n : Nat) => .v (.int .i64 (n : Int))
    | .string => match x with | .v (.string s) => some (.v (.int .i64 (s.size : Int))) | _ => none
    | _ => none
  | .min, xs, _ => minsA xs
  | .max, xs, _ => maxsA xs
  | _, _, _ => none

def callR (P : Program) (e : Env) (c : Call) : Option AV :=
  match c.callee with
  | .builtin b => builtinR P b (c.args.toList.map (ev e)) c.argTypes.toList
  | _ => none

def stepR (P : Program) (h : List Blk) (e : Env) : Op → Option AV
  | .move x | .assign x => some (ev e x)
  | .pick c a b => match ev e c with
    | .v (.bool t) => some (if t then ev e a else ev e b)
    | _ => none
  | .load t a => loadA P h t (ev e a)
  | .nilCheck x => match ev e x with
    | .ptr b base i => some (.ptr b base i)
    | .rop y => some (.rop y)
    | .fn (.func f) a b => some (.fn (.func f) a b)
    | _ => none
  | .binOp op t x y _ => binA P op t (ev e x) (ev e y)
  | .unOp op _ x => unA op (ev e x)
  | .convert src dst x => convA P h src dst (ev e x)
  | .sliceToArrayPointer t x => arrayAtA P t (ev e x)
  | .makeFunc f a b => some (.fn f (a.toList.map (ev e)) (b.toList.map (ev e)))
  | .slice t x lo hi mx => sliceA P h t (ev e x) (optA e lo) (optA e hi) (optA e mx)
  | .fieldAddr s x f => fieldAddrA P s (ev e x) f
  | .field s x f => if (ev e x).isAggV then fieldA P s (ev e x) f else none
  | .indexAddr t x ix => match ev e ix with
    | .v (.int _ n) => indexAddrA P t (ev e x) n
    | _ => none
  | .index t x ix => match ev e ix with
    | .v (.int _ n) => indexA P t (ev e x) n
    | _ => none
  | .extract x i => match ev e x with
    | .tup ps => ps[i]?
    | _ => none
  | .call c => callR P e c
  | .build t parts => buildA P t (parts.toList.map fun (i, x) => (i, ev e x))
  | _ => none

section
variable {P : Program} {X : Nat → Prop} {ρ : List (Option Nat)} {h : List Blk} {w : World}

theorem relVs_map {e : Env} {rv : Operand → Value} (he : ∀ x, AV.relV X w ρ (ev e x) (rv x)) : ∀ l : List Operand, relVs X w ρ (l.map (ev e)) (l.map rv)
  | [] => by simp [relVs]
  | x :: l => by simp only [List.map_cons, relVs]; exact ⟨_, _, rfl, he x, relVs_map he l⟩

theorem relVs_get : ∀ {ps : List AV} {vs : List Value} {i : Nat} {v : AV}, relVs X w ρ ps vs → ps[i]? = some v → ∃ x, vs[i]? = some x ∧ AV.relV X w ρ v x
  | [], _, _, _, _, e => by simp at e
  | p :: ps, vs, 0, v, hr, e => by
    simp only [relVs] at hr; obtain ⟨a, b, rfl, h1, h2⟩ := hr
    simp at e; subst e; exact ⟨a, by simp, h1⟩
  | p :: ps, vs, i + 1, v, hr, e => by
    simp only [relVs] at hr; obtain ⟨a, b, rfl, h1, h2⟩ := hr
    obtain ⟨x, hx, hv⟩ := relVs_get h2 (by simpa using e)
    exact ⟨x, by simpa using hx, hv⟩

theorem opt_rel {e : Env} {rv : Operand → Value} (he : ∀ x, AV.relV X w ρ (ev e x) (rv x)) (o : Option Operand) : optRel X w ρ (optA e o) (o.map rv) := by
  cases o with
  | none => exact .inl ⟨rfl, rfl⟩
  | some x => exact .inr ⟨_, _, rfl, rfl, he x⟩

theorem relVs_one {x : AV} {vs : List Value} (h : relVs X w ρ [x] vs) : ∃ y, vs = [y] ∧ AV.relV X w ρ x y := by
  simp only [relVs] at h; obtain ⟨a, b, rfl, h1, rfl⟩ := h; exact ⟨a, rfl, h1⟩
theorem relVs_two {x x' : AV} {vs : List Value} (h : relVs X w ρ [x, x'] vs) : ∃ y y', vs = [y, y'] ∧ AV.relV X w ρ x y ∧ AV.relV X w ρ x' y' := by
  simp only [relVs] at h; obtain ⟨a, b, rfl, h1, c, d, rfl, h2, rfl⟩ := h; exact ⟨a, c, rfl, h1, h2⟩
theorem v_int {k : IntKind} {n : Int} {y : Value} (h : AV.relV X w ρ (.v (.int k n)) y) : y = .int k n := by
  simp only [AV.relV, AV.rel] at h; have := h.1; injection this

theorem kindT_slice {t : TypeId} {b : Bool} (e : kindT P t = .slice b) : ∃ a, P.underlying t = some (.slice a) := by
  unfold kindT at e; split at e <;> simp_all

theorem builtinR_ok {b : Builtin} {xs : List AV} {ts : List TypeId} {v : AV} {vs : Array Value} {tys : Array TypeId} {ty : TypeId} {cs : Array Bool} (hv : relVs X w ρ xs vs.toList) (ht : tys.toList = ts)
    (hs : builtinR P b xs ts = some v) : ∃ z, (builtin b tys ty cs vs).run P w = .ok (.value z) w ∧ AV.relV X w ρ v z := by
  unfold builtinR at hs
  split at hs
  · rename_i x t
    have ht : tys = #[t] := by apply Array.ext'; simpa using ht
    subst ht
    obtain ⟨y, hy, hx⟩ := relVs_one hv
    have hvs : vs = #[y] := by apply Array.ext'; simpa using hy
    subst hvs
    split at hs
    · rename_i hk
      obtain ⟨n, hn, rfl⟩ := Option.map_eq_some_iff.1 hs
      obtain ⟨a, hu⟩ := kindT_slice hk
      obtain ⟨a, c, rfl⟩ := lenA_ok hx hn
      exact ⟨_, by simp [builtin, Builtin.len_, run_und hu, goInt], v_rel rfl⟩
    · rename_i hk
      have hu := kindT_string hk
      split at hs
      · cases hs
        simp only [AV.relV, AV.rel] at hx
        cases hx.1
        exact ⟨_, by simp [builtin, Builtin.len_, run_und hu, goInt], v_rel rfl⟩
      · cases hs
    · cases hs
  · unfold minsA at hs
    split at hs
    · split at hs
      · rename_i hk
        subst hk
        cases hs
        obtain ⟨y, y', hy, h1, h2⟩ := relVs_two hv
        cases v_int h1; cases v_int h2
        exact ⟨_, by simp [builtin, Builtin.min_, Builtin.min2, hy], v_rel rfl⟩
      · cases hs
    · cases hs
  · unfold maxsA at hs
    split at hs
    · split at hs
      · rename_i hk
        subst hk
        cases hs
        obtain ⟨y, y', hy, h1, h2⟩ := relVs_two hv
        cases v_int h1; cases v_int h2
        exact ⟨_, by simp [builtin, Builtin.max_, Builtin.max2, hy], v_rel rfl⟩
      · cases hs
    · cases hs
  · cases hs

theorem callR_ok {e : Env} {rv : Operand → Value} (he : ∀ x, AV.relV X w ρ (ev e x) (rv x)) {dst : Option Tmp} {c : Call} {ty : TypeId} {pos : String} {after : Array Edge} {guard : Option (Nat × Bool)}
    {v : AV} (hs : callR P e c = some v) : ∃ z, (execOp rv ⟨dst, .call c, ty, pos, after, guard⟩).run P w = .ok (.value z) w ∧ AV.relV X w ρ v z := by
  obtain ⟨callee, args, tys⟩ := c
  unfold callR at hs
  split at hs
  · rename_i b hb
    simp only at hb hs
    subst hb
    obtain ⟨z, hz, hv⟩ := builtinR_ok (vs := args.map rv) (ty := ty) (cs := args.map fun | .const _ => true | _ => false) (by simpa using relVs_map he args.toList) rfl hs
    exact ⟨z, hz, hv⟩
  · cases hs

theorem stepR_ok (hh : HRel X ρ h w) {e : Env} {rv : Operand → Value} (he : ∀ x, AV.relV X w ρ (ev e x) (rv x)) {o : Oper} {v : AV} (hs : stepR P h e o.op = some v) :
    ∃ z, (execOp rv o).run P w = .ok (.value z) w ∧ AV.relV X w ρ v z := by
  obtain ⟨dst, op, ty, pos, after, guard⟩ := o
  simp only at hs
  have fin : ∀ {s : Sem Value}, (∃ z, s.run P w = .ok z w ∧ AV.relV X w ρ v z) → execOp rv ⟨dst, op, ty, pos, after, guard⟩ = (do pure (.value (← s))) →
      ∃ z, (execOp rv ⟨dst, op, ty, pos, after, guard⟩).run P w = .ok (.value z) w ∧ AV.relV X w ρ v z := by
    rintro s ⟨z, hz, hv⟩ heq
    exact ⟨z, by rw [heq]; simp [hz], hv⟩
  unfold stepR at hs
  split at hs
  · cases hs; exact ⟨_, rfl, he _⟩
  · cases hs; exact ⟨_, rfl, he _⟩
  · rename_i c a b
    split at hs
    · rename_i t hc
      cases hs
      have h1 := he c
      rw [hc] at h1
      simp only [AV.relV, AV.rel] at h1
      have h1 := h1.1
      injection h1 with h1 _
      refine ⟨if t then rv a else rv b, ?_, by split <;> exact he _⟩
      simp [execOp, h1, asBool]
    · cases hs
  · exact fin (loadA_ok hh (he _) hs) rfl
  · rename_i x
    have h1 := he x
    split at hs
    · rename_i heq
      cases hs
      rw [heq] at h1
      refine ⟨rv x, ?_, h1⟩
      simp only [AV.relV, AV.rel] at h1
      obtain ⟨r, hr, h1⟩ := h1
      injection h1 with h1 _
      simp [execOp, h1]
    · rename_i heq
      cases hs
      rw [heq] at h1
      refine ⟨rv x, ?_, h1⟩
      simp only [AV.relV, AV.rel] at h1
      obtain ⟨a, vs, h1, _⟩ := h1
      injection h1 with h1 _
      simp [execOp, h1]
    · rename_i heq
      cases hs
      rw [heq] at h1
      refine ⟨rv x, ?_, h1⟩
      simp only [AV.relV, AV.rel] at h1
      obtain ⟨a, vs, h1, _⟩ := h1
      injection h1 with h1 _
      simp [execOp, h1]
    · cases hs
  · rename_i op t x y yt
    obtain ⟨h1, z, h2, h3⟩ := binA_ok (x := x) (y := y) (he x) (he y) hs
    exact ⟨z, by simp [execOp, h1, h2], h3⟩
  · exact fin (unA_ok (he _) hs) rfl
  · exact fin (convA_ok hh (he _) hs) rfl
  · exact fin (arrayAtA_ok (he _) hs) rfl
  · rename_i f a b
    cases hs
    refine ⟨.func f (a.map rv) (b.map rv), by simp [execOp, Instr.makeFunc], ?_⟩
    simp only [AV.relV, AV.rel]
    exact ⟨_, _, rfl, by simpa using relVs_map he a.toList, by simpa using relVs_map he b.toList⟩
  · exact fin (sliceA_ok hh (opt_rel he _) (opt_rel he _) (opt_rel he _) (he _) hs) rfl
  · exact fin (fieldAddrA_ok (he _) hs) rfl
  · split at hs
    · exact fin (fieldA_ok (he _) hs ‹_›) rfl
    · cases hs
  · rename_i t x ix
    split at hs
    · rename_i k n heq
      have h1 := he ix
      rw [heq] at h1
      simp only [AV.relV, AV.rel] at h1
      have h1 := h1.1
      injection h1 with h1 _
      have := indexAddrA_ok (P := P) (k := k) (he x) hs
      rw [← h1] at this
      exact fin this rfl
    · cases hs
  · rename_i t x ix
    split at hs
    · rename_i k n heq
      have h1 := he ix
      rw [heq] at h1
      simp only [AV.relV, AV.rel] at h1
      have h1 := h1.1
      injection h1 with h1 _
      have := indexA_ok (P := P) (k := k) (he x) hs
      rw [← h1] at this
      exact fin this rfl
    · cases hs
  · rename_i x i
    split at hs
    · rename_i ps heq
      have h1 := he x
      rw [heq] at h1
      simp only [AV.relV] at h1
      obtain ⟨vs, h1, h2⟩ := h1
      obtain ⟨z, hz, hv⟩ := relVs_get h2 hs
      have h1' : rv x = .tuple vs := h1
      exact ⟨z, by have hz' : vs[i]? = some z := by simpa using hz
                   simp [execOp, Instr.extract, h1', hz'], hv⟩
    · cases hs
  · rename_i c
    exact callR_ok he hs
  · exact fin (build_ok he hs) rfl
  · cases hs
end
end Go.Ax

namespace Go.Ax

def XOf (E : Nat → Prop) (ρ : List (Option Nat)) (h : List Blk) (r : Nat) : Prop := E r ∨ own ρ h r

def mark (D : Nat) : Deferred := { target := .collected D, args := #[] }
def Marks (w0 : World) (F : Nat → Prop) (a : Act) (w : World) : Prop :=
  ∃ Ds : List Nat, a.defers = Ds.map mark ∧ Ds.Nodup ∧ ∀ D ∈ Ds, (F D ∨ w0.heap.size ≤ D) ∧ w.heap[D]? = some (.deferred (some []))
theorem Marks.none {w0 : World} {F : Nat → Prop} {a : Act} {w : World} (h : a.defers = []) : Marks w0 F a w := ⟨[], by rw [h]; rfl, List.nodup_nil, by simp⟩

structure Rep (E : Nat → Prop) (w0 : World) (F : Nat → Prop) (n : Nat) (r0 : List (Option Nat)) (ρ : List (Option Nat)) (σ : St) (a : Act) (w : World) : Prop where
  tm : ∀ i, AV.relV (XOf E ρ σ.h) w ρ (get σ.e i) (a.tmps.getD i undef)
  sz : a.tmps.size = n
  df : Marks w0 F a w
  hp : HRel (XOf E ρ σ.h) ρ σ.h w
  fr : Frame F w0 w
  ow : ∀ r, own ρ σ.h r → F r ∨ w0.heap.size ≤ r
  el : ∀ r, E r → r < w0.heap.size ∧ ¬ own ρ σ.h r
  ex : ∀ (b : Nat) o, r0[b]? = some o → ρ[b]? = some o

section
variable {P : Program} {E : Nat → Prop} {w0 : World} {F : Nat → Prop} {n : Nat} {r0 : List (Option Nat)} {ρ : List (Option Nat)} {σ : St} {a : Act} {w : World}

theorem Rep.ev (hr : Rep E w0 F n r0 ρ σ a w) (x : Operand) : AV.relV (XOf E ρ σ.h) w ρ (ev σ.e x) (a.eval x) := by
  cases x with
  | tmp t => exact hr.tm t
  | const v => cases v <;> simp only [Ax.ev, constAV, Act.eval] <;> first | (simp only [AV.relV]; done) | exact v_rel rfl
  | global g => simp only [Ax.ev, AV.relV]
  | func f => simp only [Ax.ev, Act.eval, AV.relV, AV.rel, relVs]; exact ⟨_, _, rfl, by simp⟩

theorem get_put' (e : Env) (d : Option Nat) (v : AV) (i : Nat) : get (put e d v) i = if d = some i then v else get e i := by
  cases d with
  | none => simp [put]
  | some d => simp only [get_put, Option.some.injEq]

theorem getD_put (a : Act) (d : Option Nat) (z : Value) (i : Nat) (hd : ∀ t, d = some t → t < a.tmps.size) : (a.put d z).tmps.getD i undef = if d = some i then z else a.tmps.getD i undef := by
  cases d with
  | none => simp [Act.put]
  | some d =>
    have := hd d rfl
    simp only [Act.put, Option.some.injEq, Array.getD_eq_getD_getElem?, Array.getElem?_setIfInBounds]
    by_cases h : d = i
    · subst h; simp [this]
    · simp [h]

theorem Rep.put (hr : Rep E w0 F n r0 ρ σ a w) {d : Option Nat} {v : AV} {z : Value} (hd : ∀ t, d = some t → t < n) (hv : AV.relV (XOf E ρ σ.h) w ρ v z) :
    Rep E w0 F n r0 ρ ⟨Ax.put σ.e d v, σ.h⟩ (a.put d z) w := by
  refine ⟨?_, ?_, ?_, hr.hp, hr.fr, hr.ow, hr.el, hr.ex⟩
  · intro i
    rw [get_put', getD_put a d z i (by rw [hr.sz]; exact hd)]
    split
    · exact hv
    · exact hr.tm i
  · cases d <;> simp [Act.put, hr.sz]
  · obtain ⟨Ds, h1, h2⟩ := hr.df; exact ⟨Ds, by cases d <;> simpa [Act.put] using h1, h2⟩

theorem HRel.own_cells {X : Nat → Prop} {h : List Blk} (hh : HRel X ρ h w) {r : Nat} (ho : own ρ h r) : ∃ c e fz, w.heap[r]? = some (.cells c e fz) := by
  obtain ⟨b, hb, ps, hp⟩ := ho
  have h1 := hh.blk b ps hp
  rw [hb] at h1
  obtain ⟨c, e, fz, h2, _⟩ := h1
  exact ⟨c, e, fz, h2⟩

theorem Rep.step (hr : Rep E w0 F n r0 ρ σ a w) {ρ' : List (Option Nat)} {h' : List Blk} {w' : World} (hf : Frame (own ρ σ.h) w w') (hρ : ∀ (b : Nat) o, ρ[b]? = some o → ρ'[b]? = some o)
    (ho : ∀ r, own ρ' h' r → own ρ σ.h r ∨ w.heap.size ≤ r) (hh : HRel (XOf E ρ' h') ρ' h' w') : Rep E w0 F n r0 ρ' ⟨σ.e, h'⟩ a w' := by
  have hX : ∀ r, r < w.heap.size → XOf E ρ' h' r → XOf E ρ σ.h r := by
    rintro r hlt (h | h)
    · exact .inl h
    · rcases ho r h with h | h
      · exact .inr h
      · omega
  have k : Keep (XOf E ρ σ.h) w w' := (hf.mono (fun r h => Or.inr h)).keep
  refine ⟨fun i => relV_keep k hX _ _ _ _ hρ (hr.tm i), hr.sz, ?_, hh, ?_, ?_, ?_, fun b o h => hρ b o (hr.ex b o h)⟩
  · obtain ⟨Ds, h1, h2, h3⟩ := hr.df
    refine ⟨Ds, h1, h2, fun D hD => ⟨(h3 D hD).1, ?_⟩⟩
    have h4 := (h3 D hD).2
    rw [hf.same D (Array.getElem?_eq_some_iff.1 h4).1 ?_]
    · exact h4
    · intro hown
      obtain ⟨c, e, fz, h5⟩ := hr.hp.own_cells hown
      rw [h4] at h5; cases h5
  · refine hr.fr.trans hf ?_
    intro r hlt h
    rcases hr.ow r h with h | h
    · exact h
    · omega
  · intro r h
    rcases ho r h with h | h
    · exact hr.ow r h
    · exact .inr (Nat.le_trans hr.fr.size h)
  · intro r h
    refine ⟨(hr.el r h).1, fun h2 => ?_⟩
    rcases ho r h2 with h3 | h3
    · exact (hr.el r h).2 h3
    · have := (hr.el r h).1
      have := hr.fr.size
      omega

theorem Rep.drew (hr : Rep E w0 F n r0 ρ σ a w) : Rep E w0 F n r0 ρ σ a w.drew :=
  hr.step (ρ' := ρ) (h' := σ.h) Frame.drew (fun _ _ h => h) (fun _ h => .inl h)
    ⟨hr.hp.len, fun b ps hb => (hr.hp.blk b ps hb).keep (X := XOf E ρ σ.h) (Frame.drew.keep) (fun _ _ h => h) (fun _ _ h => h) (fun _ _ => rfl), hr.hp.inj⟩

theorem Rep.alloc (hr : Rep E w0 F n r0 ρ σ a w) {ps : List AV} {c : Array Value} {e : TypeId} {w' : World} {fz : Nat × Nat}
    (hf : Frame (fun _ => False) w w') (hnew : w'.heap[w.heap.size]? = some (.cells c e fz)) (hz : fz.1 = fz.2 ∨ c.size ≤ fz.1)
    {cs post : List Value} (hc : c.toList = cs ++ post) (hp : relAll (XOf E ρ σ.h) w ρ ps cs) :
    Rep E w0 F n r0 (ρ ++ [some w.heap.size]) ⟨σ.e, σ.h ++ [some ps]⟩ a w' := by
  have ho : ∀ r, own (ρ ++ [some w.heap.size]) (σ.h ++ [some ps]) r → own ρ σ.h r ∨ w.heap.size ≤ r := by
    intro r h
    rcases own_snoc hr.hp h with h | h
    · exact .inl h
    · cases h; exact .inr (Nat.le_refl _)
  have hX : ∀ r, r < w.heap.size → XOf E (ρ ++ [some w.heap.size]) (σ.h ++ [some ps]) r → XOf E ρ σ.h r := by
    rintro r hlt (h | h)
    · exact .inl h
    · rcases ho r h with h | h
      · exact .inr h
      · omega
  refine hr.step (hf.mono (fun _ h => h.elim)) (fun _ _ h => get_snoc_old h) ho ?_
  exact hr.hp.alloc (hf.mono (fun _ h => h.elim)) hnew (fun r hlt => hf.same r hlt (fun h => h)) hX hz hc hp

theorem frame_alloc (o : Obj) : Frame (fun _ => False) w (w.alloc o) := Frame.alloc

theorem Rep.write (hr : Rep E w0 F n r0 ρ σ a w) {b r : Nat} {ps qs : List AV} (hb : σ.h[b]? = some (some ps)) (hρ : ρ[b]? = some (some r))
    {c c' : Array Value} {e : TypeId} {fz : Nat × Nat} (hc : w.heap[r]? = some (.cells c e fz)) (hs : c'.size = c.size) (hf : fz.1 = fz.2 ∨ c.size ≤ fz.1)
    {cs post : List Value} (hl : c'.toList = cs ++ post) (hq : relAll (XOf E ρ σ.h) w ρ qs cs) :
    Rep E w0 F n r0 ρ ⟨σ.e, σ.h.set b (some qs)⟩ a (setRow w r c') := by
  have ho : ∀ r, own ρ (σ.h.set b (some qs)) r ↔ own ρ σ.h r := own_set hb
  have hX : XOf E ρ (σ.h.set b (some qs)) = XOf E ρ σ.h := by
    funext r; exact propext (or_congr Iff.rfl (ho r))
  refine hr.step (Frame.setRow hc hs ⟨b, hρ, ps, hb⟩) (fun _ _ h => h) (fun r h => .inl ((ho r).1 h)) ?_
  rw [hX]
  exact hr.hp.write hb hρ (fun r h => Or.inr h) hc hs hf hl hq

theorem Rep.mark (hr : Rep E w0 F n r0 ρ σ a w) {b r : Nat} {ps : List AV} {z : Nat × Nat} (hb : σ.h[b]? = some (some ps)) (hρ : ρ[b]? = some (some r))
    {c : Array Value} {e : TypeId} {fz : Nat × Nat} (hc : w.heap[r]? = some (.cells c e fz)) (hz : z.1 = z.2 ∨ c.size ≤ z.1) :
    Rep E w0 F n r0 ρ ⟨σ.e, σ.h⟩ a (setFz w r z) :=
  hr.step (Frame.setFz hc ⟨b, hρ, ps, hb⟩) (fun _ _ h => h) (fun r h => .inl h) (hr.hp.mark hb hρ (fun r h => Or.inr h) hc hz)

theorem Rep.kill (hr : Rep E w0 F n r0 ρ σ a w) (b : Nat) : Rep E w0 F n r0 ρ ⟨σ.e, σ.h.set b none⟩ a w := by
  have ho : ∀ r, own ρ (σ.h.set b none) r → own ρ σ.h r := fun r h => own_kill h
  refine hr.step Frame.refl (fun _ _ h => h) (fun r h => .inl (ho r h)) ?_
  refine hr.hp.kill b ?_
  rintro r _ (h | h)
  · exact .inl h
  · exact .inr (ho r h)

theorem Rep.alias (hr : Rep E w0 F n r0 ρ σ a w) {b r : Nat} {ps qs : List AV} (hb : σ.h[b]? = some (some ps)) (hρ : ρ[b]? = some (some r))
    {c c' : Array Value} {e : TypeId} {fz : Nat × Nat} (hc : w.heap[r]? = some (.cells c e fz)) (hs : c'.size = c.size) (hf : fz.1 = fz.2 ∨ c.size ≤ fz.1)
    {cs post : List Value} (hl : c'.toList = cs ++ post) (hq : relAll (XOf E ρ σ.h) w ρ qs cs) :
    Rep E w0 F n r0 (ρ ++ [some r]) ⟨σ.e, (σ.h.set b none) ++ [some qs]⟩ a (setRow w r c') := by
  have hlen := hr.hp.len
  have hbl : b < σ.h.length := (List.getElem?_eq_some_iff.1 hb).1
  have hown : own ρ σ.h r := ⟨b, hρ, ps, hb⟩
  have hlive : ∀ b', live ((σ.h.set b none) ++ [some qs]) b' → (b' < σ.h.length ∧ live σ.h b' ∧ b ≠ b') ∨ b' = σ.h.length := by
    intro b' hl
    rcases Nat.lt_or_ge b' σ.h.length with h | h
    · have := (live_snoc (h := σ.h.set b none) (by simpa using h)).1 hl
      exact .inl ⟨h, live_kill this⟩
    · obtain ⟨q, hq⟩ := hl
      have := (List.getElem?_eq_some_iff.1 hq).1
      simp at this
      exact .inr (by omega)
  have ho : ∀ r', own (ρ ++ [some r]) ((σ.h.set b none) ++ [some qs]) r' → own ρ σ.h r' := by
    rintro r' ⟨b', hb', hl'⟩
    rcases hlive b' hl' with ⟨h1, h2, _⟩ | h1
    · rw [List.getElem?_append_left (by omega)] at hb'
      exact ⟨b', hb', h2⟩
    · subst h1
      rw [← hlen] at hb'
      simp at hb'
      exact hb' ▸ hown
  have hfr : Frame (own ρ σ.h) w (setRow w r c') := Frame.setRow hc hs hown
  have hX : ∀ r', r' < w.heap.size → XOf E (ρ ++ [some r]) ((σ.h.set b none) ++ [some qs]) r' → XOf E ρ σ.h r' := by
    rintro r' _ (h | h)
    · exact .inl h
    · exact .inr (ho r' h)
  have k : Keep (XOf E ρ σ.h) w (setRow w r c') := (hfr.mono (fun r h => Or.inr h)).keep
  refine hr.step hfr (fun _ _ h => get_snoc_old h) (fun r' h => .inl (ho r' h)) ?_
  refine ⟨by simp [hlen], ?_, ?_⟩
  · intro b' ps' hb'
    rcases hlive b' ⟨ps', hb'⟩ with ⟨h1, h2, h3⟩ | h1
    · rw [List.getElem?_append_left (by simpa using h1), List.getElem?_set_ne h3] at hb'
      rw [List.getElem?_append_left (by omega)]
      refine (hr.hp.blk b' ps' hb').keep k hX (fun _ _ h => get_snoc_old h) ?_
      intro r' hr'
      refine setRow_other w r c' r' ?_
      rintro rfl
      exact h3 (hr.hp.inj b b' _ hρ hr' ⟨ps, hb⟩ h2)
    · subst h1
      rw [List.getElem?_append_right (by simp)] at hb'
      simp at hb'
      subst hb'
      rw [← hlen]
      simp only [List.getElem?_concat_length]
      exact ⟨c', _, fz, setRow_same hc, by rw [hs]; exact hf, cs, post, hl, relAll_keep k hX _ _ _ _ (fun _ _ h => get_snoc_old h) hq⟩
  · intro b1 b2 r' h1 h2 l1 l2
    rcases hlive b1 l1 with ⟨a1, m1, n1⟩ | a1 <;> rcases hlive b2 l2 with ⟨a2, m2, n2⟩ | a2
    · rw [List.getElem?_append_left (by omega)] at h1 h2
      exact hr.hp.inj b1 b2 r' h1 h2 m1 m2
    · subst a2
      rw [List.getElem?_append_left (by omega)] at h1
      rw [← hlen] at h2
      simp at h2
      subst h2
      exact absurd (hr.hp.inj b b1 _ hρ h1 ⟨ps, hb⟩ m1) n1
    · subst a1
      rw [List.getElem?_append_left (by omega)] at h2
      rw [← hlen] at h1
      simp at h1
      subst h1
      exact absurd (hr.hp.inj b b2 _ hρ h2 ⟨ps, hb⟩ m2) n2
    · omega
end
end Go.Ax

namespace Go.Ax
section
variable {P : Program} {X : Nat → Prop} {w : World} {ρ : List (Option Nat)} {h : List Blk}

structure Src (P : Program) (w : World) (size : Nat) (y : Value) (m : Nat) (news : List Value) : Prop where
  len : ∀ w', (Builtin.lenOf y).run P w' = .ok m w'
  cells : ∀ w', w'.heap = w.heap → ∀ n, n ≤ m → (Builtin.firstCells size n y).run P w' = .ok (news.take (n * size)).toArray w'
  flat : ∀ u ∈ news, flat u = true
  size : news.length = m * size

theorem cell_heap {w w' : World} (h : w'.heap = w.heap) (a : Addr) : w'.cell? a = w.cell? a := by simp [World.cell?, h]

theorem src_ints (hh : HRel X ρ h w) {x : AV} {y : Value} {k : IntKind} {l : List Int} (hx : AV.relV X w ρ x y) (e : intsOf h x = some (k, l)) : Src P w 1 y l.length (l.map (Value.int k)) := by
  rcases intsOf_ok hh hx e with ⟨a, c, rfl, hc⟩ | ⟨rfl, rfl⟩ | ⟨s, rfl, rfl, rfl⟩
  · refine ⟨fun w' => rfl, ?_, by simp [Ax.flat], by simp⟩
    intro w' hw n hn
    have := run_firstCells_some (P := P) w' 1 n a l.length c ((l.map (Value.int k)).take (n * 1)) (by simp; omega) (fun j v hj => by
      rw [cell_heap hw]
      refine hc j v ?_
      rw [List.getElem?_take] at hj
      split at hj
      · exact hj
      · cases hj)
    simpa using this
  · refine ⟨fun w' => rfl, ?_, by simp, by simp⟩
    intro w' _ n hn
    simp at hn; subst hn
    simp [Builtin.firstCells]
  · refine ⟨fun w' => by simp [Builtin.lenOf, strOf], ?_, by simp [Ax.flat], by simp⟩
    intro w' _ n hn
    simp only [Builtin.firstCells, Sem.run_pure]
    congr 1
    apply Array.ext'
    rw [ByteArray.data_extract]
    simp [strOf, Array.toList_extract]
    rfl

theorem grownCap_ge' (w : World) (need old : Nat) (e : TypeId) : need ≤ grownCap w need old e := by
  simp [grownCap, Question.cut]

theorem append_new {t xT e : TypeId} {i : TypeInfo} {z : Value} (ht : P.underlying t = some (.slice e)) (hxT : (∃ q, P.underlying xT = some (.slice q)) ∨ P.underlying xT = some .string)
    (hi : P.info? e = some i) (hz : i.zero = some z) {s x : Value} {sb : Option Addr} {sLen sCap m : Nat} (hs : s = .slice sb sLen sCap) {olds news : List Value}
    (holds : ∀ w', w'.heap = w.heap → (Builtin.firstCells i.size sLen s).run P w' = .ok olds.toArray w') (hsrc : Src P w i.size x m news)
    (hg : sCap < sLen + m) (hb : (sLen + m) * i.bytes ≤ 140737488355328) (h63 : sLen + m ≤ 9223372036854775807) {ty : TypeId} :
    (Builtin.append_ #[t, xT] ty #[s, x]).run P w =
      .ok (.slice (some ⟨w.heap.size, 0, none⟩) (sLen + m) (grownCap w (sLen + m) sCap e))
        (w.drew.alloc (.cells (olds.toArray ++ news.toArray ++ Builtin.zeroCells z.cells (grownCap w (sLen + m) sCap e - (sLen + m))) e)) := by
  subst hs
  have hn : ¬ (sLen + m ≤ sCap) := by omega
  have h63' : ¬ (9223372036854775807 < ((sLen : Int) + (m : Int))) := by omega
  have h48' : ¬ (281474976710656 < Builtin.nextslicecap (sLen + m) sCap * i.bytes) := by have := growslice_fits hg hb; omega
  have hf := hsrc.cells w.drew rfl m (Nat.le_refl _)
  have hfo := holds w.drew rfl
  have hl := hsrc.len w
  have htk : news.take (m * i.size) = news := List.take_of_length_le (by rw [hsrc.size]; exact Nat.le_refl _)
  rw [htk] at hf
  rcases hxT with ⟨q, hxT⟩ | hxT <;>
  simp [Builtin.append_, run_underlying ht, run_underlying hxT, sizeOf, typeInfo, zeroValue, hi, hz, hl, hn, h63', h48', Question.forced, hf, hfo, newRow, grownCap]
  all_goals (congr 2; apply Array.ext'; simp)

theorem append_room {t xT e : TypeId} {i : TypeInfo} (ht : P.underlying t = some (.slice e)) (hxT : (∃ q, P.underlying xT = some (.slice q)) ∨ P.underlying xT = some .string)
    (hi : P.info? e = some i) {s x : Value} {a : Addr} {sLen sCap m : Nat} (hs : s = .slice (some a) sLen sCap) {news : List Value} (hsrc : Src P w i.size x m news)
    (hg : sLen + m ≤ sCap) {w' : World} (hst : (storeCells (a.add (sLen * i.size)) news).run P w = .ok () w') {ty : TypeId} :
    (Builtin.append_ #[t, xT] ty #[s, x]).run P w = .ok (.slice (some a) (sLen + m) sCap) w' := by
  subst hs
  have hf := hsrc.cells w rfl m (Nat.le_refl _)
  have hl := hsrc.len w
  have htk : news.take (m * i.size) = news := List.take_of_length_le (by rw [hsrc.size]; exact Nat.le_refl _)
  rw [htk] at hf
  rcases hxT with ⟨q, hxT⟩ | hxT <;>
  simp [Builtin.append_, run_underlying ht, run_underlying hxT, sizeOf, typeInfo, hi, hl, hg, hf, hst]

theorem append_none {t xT e : TypeId} {i : TypeInfo} (ht : P.underlying t = some (.slice e)) (hxT : (∃ q, P.underlying xT = some (.slice q)) ∨ P.underlying xT = some .string)
    (hi : P.info? e = some i) {x : Value} {news : List Value} (hsrc : Src P w i.size x 0 news) {ty : TypeId} :
    (Builtin.append_ #[t, xT] ty #[.slice none 0 0, x]).run P w = .ok (.slice none 0 0) w := by
  have hf := hsrc.cells w rfl 0 (Nat.le_refl _)
  have hl := hsrc.len w
  rcases hxT with ⟨q, hxT⟩ | hxT <;>
  simp [Builtin.append_, run_underlying ht, run_underlying hxT, sizeOf, typeInfo, hi, hl, hf]

structure Appd (P : Program) (w : World) (t xT ty el : TypeId) (i : TypeInfo) (z : Value) (x : Value) (m : Nat) (news : List Value) : Prop where
  new : ∀ {s : Value} {sb : Option Addr} {sLen sCap : Nat} {olds : List Value}, s = .slice sb sLen sCap →
    (∀ w', w'.heap = w.heap → (Builtin.firstCells i.size sLen s).run P w' = .ok olds.toArray w') → sCap < sLen + m → (sLen + m) * i.bytes ≤ 140737488355328 → sLen + m ≤ 9223372036854775807 →
    (Builtin.append_ #[t, xT] ty #[s, x]).run P w =
      .ok (.slice (some ⟨w.heap.size, 0, none⟩) (sLen + m) (grownCap w (sLen + m) sCap el))
        (w.drew.alloc (.cells (olds.toArray ++ news.toArray ++ Builtin.zeroCells z.cells (grownCap w (sLen + m) sCap el - (sLen + m))) el))
  room : ∀ {s : Value} {a : Addr} {sLen sCap : Nat}, s = .slice (some a) sLen sCap → sLen + m ≤ sCap → ∀ {w' : World}, (storeCells (a.add (sLen * i.size)) news).run P w = .ok () w' →
    (Builtin.append_ #[t, xT] ty #[s, x]).run P w = .ok (.slice (some a) (sLen + m) sCap) w'
  none : m = 0 → (Builtin.append_ #[t, xT] ty #[.slice none 0 0, x]).run P w = .ok (.slice none 0 0) w
  flat : ∀ u ∈ news, flat u = true
  size : news.length = m * i.size

theorem appd_src {t xT ty e : TypeId} {i : TypeInfo} {z : Value} (ht : P.underlying t = some (.slice e)) (hxT : (∃ q, P.underlying xT = some (.slice q)) ∨ P.underlying xT = some .string)
    (hi : P.info? e = some i) (hz : i.zero = some z) {x : Value} {m : Nat} {news : List Value} (hsrc : Src P w i.size x m news) : Appd P w t xT ty e i z x m news :=
  ⟨fun hs ho hg hb h63 => append_new ht hxT hi hz hs ho hsrc hg hb h63, fun hs hg _ hst => append_room ht hxT hi hs hsrc hg hst, fun h0 => by subst h0; exact append_none ht hxT hi hsrc, hsrc.flat, hsrc.size⟩

theorem appd_zero {t xT ty e : TypeId} {i : TypeInfo} {z : Value} {q : IntKind} (ht : P.underlying t = some (.slice e)) (hxT : P.underlying xT = some (.int q))
    (hi : P.info? e = some i) (hz : i.zero = some z) (h1 : i.size = 1) (hc : z.cells = #[z]) (hf : Ax.flat z = true) {m : Nat} (hm : m ≤ 9223372036854775807) (hb : m * i.bytes ≤ 281474976710656) :
    Appd P w t xT ty e i z (.int .i64 (m : Int)) m (List.replicate m z) := by
  have hw : IntKind.i64.wrap (m : Int) = (m : Int) := by
    unfold IntKind.wrap
    simp only [IntKind.bits, IntKind.signed]
    simp
    omega
  have hn0 : ¬ ((m : Int) < 0) := by omega
  have hb' : ¬ (281474976710656 < (m : Int) * (i.bytes : Int)) := by
    have : ((m * i.bytes : Nat) : Int) = (m : Int) * (i.bytes : Int) := by simp
    omega
  have hzc : Builtin.zeroCells z.cells m = (List.replicate m z).toArray := by
    rw [hc]
    unfold Builtin.zeroCells
    apply Array.ext'
    simp
    apply List.ext_getElem
    · simp
    · intro j h1 h2
      simp [Nat.mod_one]
  have hw0 : IntKind.i64.wrap 0 = 0 := rfl
  refine ⟨?_, ?_, ?_, ?_, by simp [h1]⟩
  · intro s sb sLen sCap olds hs ho hg hbb h63
    subst hs
    have hn : ¬ (sLen + m ≤ sCap) := by omega
    have h63' : ¬ (9223372036854775807 < ((sLen : Int) + (m : Int))) := by omega
    have h48' : ¬ (281474976710656 < Builtin.nextslicecap (sLen + m) sCap * i.bytes) := by have := growslice_fits hg hbb; omega
    have hfo := ho w.drew rfl
    rw [h1] at hfo
    rcases Nat.eq_zero_or_pos m with h0 | h0
    · subst h0
      simp only [Nat.add_zero] at hn h63' h48'
      have h63'' : ¬ (9223372036854775807 < (sLen : Int)) := by omega
      simp [Builtin.append_, run_underlying ht, run_underlying hxT, sizeOf, typeInfo, zeroValue, hi, hz, hn, h63'', h48', Question.forced, hfo, newRow, grownCap, asInt, asIntOf, hw0, h1]
    · have hm0 : ¬ (m = 0) := by omega
      simp [Builtin.append_, run_underlying ht, run_underlying hxT, sizeOf, typeInfo, zeroValue, hi, hz, hn, h63', h48', Question.forced, hfo, newRow, grownCap, asInt, asIntOf, hw, hn0, hb', h1, hm0, hzc]
  · intro s a sLen sCap hs hg w' hst
    subst hs
    rw [h1] at hst
    rcases Nat.eq_zero_or_pos m with h0 | h0
    · subst h0
      simp only [List.replicate_zero] at hst
      simp [Builtin.append_, run_underlying ht, run_underlying hxT, sizeOf, typeInfo, zeroValue, hi, hz, asInt, asIntOf, hw0, h1]
      simp at hst hg
      simp [hg, hst]
    · have hm0 : ¬ (m = 0) := by omega
      simp at hst
      simp [Builtin.append_, run_underlying ht, run_underlying hxT, sizeOf, typeInfo, zeroValue, hi, hz, hg, asInt, asIntOf, hw, hn0, hb', h1, hm0, hzc, hst]
  · intro h0
    subst h0
    simp [Builtin.append_, run_underlying ht, run_underlying hxT, sizeOf, typeInfo, zeroValue, hi, hz, asInt, asIntOf, hw0, h1]
  · intro u hu
    rw [(List.mem_replicate.1 hu).2]
    exact hf

theorem store_run {r : Nat} {e : TypeId} {fz : Nat × Nat} : ∀ (vs : List Value) (o j : Nat) (c : Array Value) (w : World), w.heap[r]? = some (.cells c e fz) → o + j + vs.length ≤ c.size →
    (fz.1 = fz.2 ∨ c.size ≤ fz.1) → (∀ v ∈ vs, flat v = true) →
    ∃ c', (storeCells ⟨r, o, none⟩ vs j).run P w = .ok () (setRow w r c') ∧ c'.toList = c.toList.take (o + j) ++ vs ++ c.toList.drop (o + j + vs.length)
  | [], o, j, c, w, hc, _, _, _ => by
    refine ⟨c, ?_, by simp⟩
    have h1 : (setRow w r c).heap = w.heap := by
      apply Array.ext_getElem?
      intro i
      by_cases h : i = r
      · subst h; rw [setRow_same hc, hc]
      · exact setRow_other w r c i h
    have this : setRow w r c = w := by
      have h2 : setRow w r c = { w with heap := (setRow w r c).heap } := rfl
      rw [h2, h1]
    rw [this]; rfl
  | v :: vs, o, j, c, w, hc, hl, hz, hf => by
    have hlt : o + j < c.size := by simp at hl; omega
    have hcell : w.cell? ⟨r, o + j, none⟩ = some c[o + j] := by simp [World.cell?, hc, hlt]
    have hfr : w.frozen? ⟨r, o + j, none⟩ = false := by
      simp only [World.frozen?, hc, Bool.and_eq_false_iff, decide_eq_false_iff_not]
      by_cases h : fz.1 < fz.2
      · left; rcases hz with hz | hz <;> omega
      · by_cases h3 : fz.1 ≤ o + j
        · right; omega
        · left; exact h3
    have hset : w.setCell ⟨r, o + j, none⟩ v = setRow w r (c.setIfInBounds (o + j) v) := by
      unfold World.setCell setRow
      congr 1
      apply Array.ext_getElem?
      intro i
      rw [Array.getElem?_modify, Array.getElem?_modify]
      split
      · rename_i h; simp only at h; subst h; rw [hc]; simp
      · rfl
    have hone : v.oneCell' = true := by
      have := hf v (by simp)
      cases v <;> first | rfl | cases this
    have hst : (store ((⟨r, o, none⟩ : Addr).add j) v).run P w = .ok () (setRow w r (c.setIfInBounds (o + j) v)) := by
      rw [addr_add, run_store P w _ v _ hone, hcell]
      simp [hfr, hset]
    obtain ⟨c', h1, h2⟩ := store_run vs o (j + 1) (c.setIfInBounds (o + j) v) (setRow w r (c.setIfInBounds (o + j) v)) (setRow_same hc) (by simp at hl ⊢; omega) (by simpa using hz) (fun u hu => hf u (by simp [hu]))
    refine ⟨c', ?_, ?_⟩
    · simp only [storeCells, Sem.run_bind, hst, Result.andThen_ok, h1]
      congr 1
      unfold setRow
      congr 1
      apply Array.ext_getElem?
      intro i
      simp only [Array.getElem?_modify]
      split
      · rename_i h; subst h; rw [hc]; rfl
      · rfl
    · rw [h2, Array.toList_setIfInBounds]
      simp only [← Nat.add_assoc] at *
      have hlt2 : o + j < c.toList.length := by simpa using hlt
      have h3 : (c.toList.set (o + j) v).take (o + j + 1) = c.toList.take (o + j) ++ [v] := by
        rw [List.take_set, List.take_succ_eq_append_getElem hlt2, List.set_append_right _ _ (by simp; omega)]
        simp
        rw [Nat.min_eq_left (Nat.le_of_lt hlt), Nat.sub_self]
        rfl
      have h4 : (c.toList.set (o + j) v).drop (o + j + 1 + vs.length) = c.toList.drop (o + j + (v :: vs).length) := by
        rw [List.drop_set, if_pos (by omega), show o + j + 1 + vs.length = o + j + (v :: vs).length from by simp; omega]
      rw [h3, h4]
      simp
end
end Go.Ax

namespace Go.Ax

inductive Out where
  | one (v : AV) (h : List Blk)
  | cap (need : Nat) (f : Nat → AV × List Blk)

def Out.all (C : AV → List Blk → Prop) : Out → Prop
  | .one v h => C v h
  | .cap n f => ∀ c, n ≤ c → C (f c).1 (f c).2

def storeA (P : Program) (h : List Blk) (t : TypeId) (addr x : AV) : Option (List Blk) :=
  match addr with
  | .ptr b base i =>
    match row h b, szT P t, aggT P t with
    | some ps, some s, some g =>
      if x.size = s ∧ x.isAggV = g then
        (rowTake ps base).bind fun pre => (rowDrop ps base).bind fun qs =>
          (if g then rowPut qs i x else rowSet qs i x).map fun qs' => h.set b (some (pre ++ qs'))
      else none
    | _, _, _ => none
  | _ => none

def intElem (P : Program) (t : TypeId) : Option IntKind :=
  match P.underlying t with
  | some (.slice e) => match kindT P e, szT P e, zeroT P e with
    | .int k, some 1, some [.v _] => some k
    | _, _, _ => none
  | _ => none
def elemBytes (P : Program) (t : TypeId) : Option Nat :=
  match P.underlying t with
  | some (.slice e) => bytesT P e
  | _ => none
def elemZero (P : Program) (t : TypeId) (c : Nat) : Option (List AV) :=
  match P.underlying t with
  | some (.slice e) => zerosT P e c
  | _ => none
def elemSize (P : Program) (t : TypeId) : Option Nat :=
  match P.underlying t with
  | some (.slice e) => szT P e
  | _ => none

def makeSliceA (P : Program) (h : List Blk) (t : TypeId) (l c : AV) : Option Out :=
  match l, c, elemBytes P t, elemSize P t with
  | .v (.int .i64 l), .v (.int .i64 c), some bytes, some s =>
    oguard (0 ≤ l ∧ l ≤ c ∧ c ≤ 9223372036854775807 ∧ bytes * c ≤ 281474976710656)
      ((elemZero P t c.toNat).map fun ps => .one (.sl h.length 0 s 0 l.toNat c.toNat) (h ++ [some ps]))
  | _, _, _, _ => none

def layInts (k : IntKind) : List (Nat × AV) → List Int → Option (List Int)
  | [], l => some l
  | (i, .v (.int k' n)) :: r, l => if k = k' ∧ i < l.length then layInts k r (l.set i n) else none
  | _, _ => none
def layOnes : List (Nat × AV) → List AV → Option (List AV)
  | [], l => some l
  | (i, x) :: r, l => if i < l.length ∧ x.solid = true then layOnes r (l.set i x) else none

def buildSliceA (P : Program) (h : List Blk) (t : TypeId) (n : Nat) (parts : List (Nat × AV)) : Option Out :=
  match elemZero P t n, elemSize P t with
  | some [.arr n' k l], some 1 => if n = n' ∧ n ≤ 16777216 then (layInts k parts l).map fun l' => .one (.sl h.length 0 1 0 n n) (h ++ [some [.arr n k l']]) else none
  | some [.lst 1 es], some 1 => if n ≤ 16777216 then (layOnes parts es).map fun es' => .one (.sl h.length 0 1 0 n n) (h ++ [some es']) else none
  | _, _ => none

def strBytesA (P : Program) (h : List Blk) (src dst : TypeId) (x : AV) : Option Out :=
  match x, kindT P src, kindT P dst with
  | .v (.string s), .string, .slice true =>
    some (.cap s.size fun c => (.sl h.length 0 1 0 s.size c, h ++ [some [.arr s.size .u8 (strOf s)]]))
  | _, _, _ => none

def markA (P : Program) (h : List Blk) (src dst : TypeId) (x : AV) : Option Out :=
  match x, kindT P src with
  | .sl b _ _ _ len _, .slice true => if src = dst ∧ 0 < len ∧ (row h b).isSome = true then some (.one x h) else none
  | _, _ => none

def elemZ (P : Program) (t : TypeId) : Option (IntKind × Int) :=
  match P.underlying t with
  | some (.slice e) => match (P.info? e).bind (·.zero) with
    | some (.int k z) => some (k, z)
    | _ => none
  | _ => none

def moreA (P : Program) (h : List Blk) (kt : Kd) (t : TypeId) (x : AV) : Option (IntKind × List Int) :=
  match kt with
  | .slice _ => intsOf h x
  | .int _ => match x, elemZ P t with
    | .v (.int .i64 n), some (k, z) => oguard (0 ≤ n ∧ n ≤ 1073741824) (some (k, List.replicate n.toNat z))
    | _, _ => none
  | _ => none

def appendA (P : Program) (h : List Blk) (t xT : TypeId) (s x : AV) : Option Out :=
  match intElem P t, elemBytes P t, moreA P h (kindT P xT) t x with
  | some k, some bytes, some (k', m) =>
    if k = k' then
      match s with
      | .v (.slice none 0 0) => oguard (m.length * bytes ≤ 140737488355328 ∧ m.length ≤ 9223372036854775807) (some (.cap m.length fun c => (.sl h.length 0 1 0 m.length c, h ++ [some [.arr m.length k m]])))
      | .sl b base sz off len cap =>
        match row h b with
        | some (.arr n kk l :: _) =>
          if sz = 1 ∧ base = 0 ∧ kk = k then
            if off = 0 then
              oguard (len ≤ n ∧ (len + m.length) * bytes ≤ 140737488355328 ∧ len + m.length ≤ 9223372036854775807)
                (some (.cap (len + m.length) fun c => (.sl h.length 0 1 0 (len + m.length) c, h.set b none ++ [some [.arr (len + m.length) k (l.take len ++ m)]])))
            else
              oguard (off + len ≤ n ∧ cap < len + m.length ∧ (len + m.length) * bytes ≤ 140737488355328 ∧ len + m.length ≤ 9223372036854775807)
                (some (.cap (len + m.length) fun c => (.sl h.length 0 1 0 (len + m.length) c, h ++ [some [.arr (len + m.length) k ((l.drop off).take len ++ m)]])))
          else none
        | _ => none
      | _ => none
    else none
  | _, _, _ => none

def appendKeepA (P : Program) (h : List Blk) (t xT : TypeId) (s x : AV) : Option Out :=
  match intElem P t, elemBytes P t, moreA P h (kindT P xT) t x, intsOf h s, s with
  | some k, some bytes, some (k', m), some (kk, l), .sl _ _ _ _ len cap =>
    if k = k' ∧ kk = k then
      oguard (cap < len + m.length ∧ (len + m.length) * bytes ≤ 140737488355328 ∧ len + m.length ≤ 9223372036854775807)
        (some (.cap (len + m.length) fun c => (.sl h.length 0 1 0 (len + m.length) c, h ++ [some [.arr (len + m.length) k (l ++ m)]])))
    else none
  | _, _, _, _, _ => none

def listB (P : Program) (t : TypeId) : Option Nat :=
  match P.underlying t with
  | some (.slice el) => (P.info? el).bind fun i => if i.size = 1 then i.zero.bind fun z => if z.cells.size = 1 then some i.bytes else none else none
  | _ => none

def listOf (h : List Blk) : AV → Option (List AV)
  | .roL 1 es => some es
  | .v (.slice none 0 0) => some []
  | .sl b 0 1 0 len _ => (row h b).bind fun ps => oguard (ps.all (fun p => p.one) = true ∧ len ≤ ps.length) (some (ps.take len))
  | _ => none

def appendLA (P : Program) (h : List Blk) (t xT : TypeId) (s x : AV) : Option Out :=
  match listB P t, kindT P xT, listOf h x, listOf h s, s with
  | some bytes, .slice _, some m, some l, .sl b _ _ _ _ _ =>
    oguard ((l.length + m.length) * bytes ≤ 140737488355328 ∧ l.length + m.length ≤ 9223372036854775807)
      (some (.cap (l.length + m.length) fun c => (.sl h.length 0 1 0 (l.length + m.length) c, h.set b none ++ [some (l ++ m)])))
  | some bytes, .slice _, some m, some _, .v (.slice none 0 0) =>
    oguard (m.length * bytes ≤ 140737488355328 ∧ m.length ≤ 9223372036854775807)
      (some (.cap m.length fun c => (.sl h.length 0 1 0 m.length c, h ++ [some m])))
  | _, _, _, _, _ => none

def copyA (P : Program) (h : List Blk) (t : TypeId) (d x : AV) : Option Out :=
  match intElem P t, intsOf h x, d with
  | some k, some (k', m), .sl b base 1 off len _ =>
    if k = k' then
      (row h b).bind fun ps => (rowTake ps base).bind fun pre => (rowDrop ps base).bind fun
        | .arr n kk l :: post =>
          if kk = k then
            oguard (off + len ≤ n) (some (.one (.v (.int .i64 (min m.length len : Nat)))
              (h.set b (some (pre ++ .arr n k (l.take off ++ m.take len ++ l.drop (off + min m.length len)) :: post)))))
          else none
        | _ => none
    else none
  | _, _, _ => none

def effO (P : Program) (h : List Blk) (e : Env) : Op → Option Out
  | .alloc t => (zeroT P t).map fun ps => .one (.ptr h.length 0 0) (h ++ [some ps])
  | .box _ x => (rowOf (ev e x)).map fun ps => .one (.ptr h.length 0 0) (h ++ [some ps])
  | .store t a x => (storeA P h t (ev e a) (ev e x)).map fun h' => .one (.tup []) h'
  | .makeSlice t l c => makeSliceA P h t (ev e l) (ev e c)
  | .buildSlice t n parts => buildSliceA P h t n (parts.toList.map fun (i, x) => (i, ev e x))
  | .convert src dst x => (strBytesA P h src dst (ev e x)).or (markA P h src dst (ev e x))
  | .call c =>
    match c.callee, c.args.toList, c.argTypes.toList with
    | .builtin .append, [s, x], [t, xT] => ((appendA P h t xT (ev e s) (ev e x)).or (appendKeepA P h t xT (ev e s) (ev e x))).or (appendLA P h t xT (ev e s) (ev e x))
    | .builtin .copy, [d, x], [t, _] => copyA P h t (ev e d) (ev e x)
    | _, _, _ => none
  | _ => none

section
variable {P : Program} {E : Nat → Prop} {w0 : World} {F : Nat → Prop} {n : Nat} {r0 : List (Option Nat)} {ρ : List (Option Nat)} {e : Env} {h : List Blk} {a : Act} {w : World}

def Left (E : Nat → Prop) (w0 : World) (F : Nat → Prop) (n : Nat) (r0 : List (Option Nat)) (e : Env) (a : Act) (out : Out) (z : Value) (w' : World) : Prop :=
  match out with
  | .one v h' => ∃ ρ', Rep E w0 F n r0 ρ' ⟨e, h'⟩ a w' ∧ AV.relV (XOf E ρ' h') w' ρ' v z
  | .cap need f => ∃ c ρ', need ≤ c ∧ Rep E w0 F n r0 ρ' ⟨e, (f c).2⟩ a w' ∧ AV.relV (XOf E ρ' (f c).2) w' ρ' (f c).1 z

theorem last_id (hr : Rep E w0 F n r0 ρ ⟨e, h⟩ a w) (r : Nat) : (ρ ++ [some r])[h.length]? = some (some r) := by
  rw [← hr.hp.len]; simp

theorem alloc_left (hr : Rep E w0 F n r0 ρ ⟨e, h⟩ a w) {ps : List AV} {c : Array Value} {t : TypeId} {cs post : List Value} (hc : c.toList = cs ++ post) (hp : relAll (XOf E ρ h) w ρ ps cs) :
    Rep E w0 F n r0 (ρ ++ [some w.heap.size]) ⟨e, h ++ [some ps]⟩ a (w.alloc (.cells c t)) :=
  hr.alloc (frame_alloc _) (heap_alloc_new w _) (by simp) hc hp

theorem alloc_ok (hr : Rep E w0 F n r0 ρ ⟨e, h⟩ a w) {t : TypeId} {ps : List AV} (hz : zeroT P t = some ps) :
    ∃ z w', (Instr.alloc t true (.tuple #[])).run P w = .ok z w' ∧ Left E w0 F n r0 e a (.one (.ptr h.length 0 0) (h ++ [some ps])) z w' := by
  obtain ⟨i, z, hi, hzz, hrel⟩ := zeroT_ok hz
  refine ⟨.pointer (some ⟨w.heap.size, 0, none⟩), w.alloc (.cells z.cells t), ?_, _, alloc_left hr (cs := z.cells.toList) (post := []) (by simp) (hrel _ _ _), ?_⟩
  · simp [Instr.alloc, zeroValue, typeInfo, hi, hzz, newVar, newRow]
  · simp only [AV.relV, AV.rel]
    exact ⟨_, last_id hr _, rfl⟩

theorem box_ok (hr : Rep E w0 F n r0 ρ ⟨e, h⟩ a w) {t : TypeId} {x : AV} {y : Value} {ps : List AV} (hx : AV.relV (XOf E ρ h) w ρ x y) (hz : rowOf x = some ps) :
    ∃ z w', (Instr.box t y).run P w = .ok z w' ∧ Left E w0 F n r0 e a (.one (.ptr h.length 0 0) (h ++ [some ps])) z w' := by
  refine ⟨.pointer (some ⟨w.heap.size, 0, none⟩), w.alloc (.cells y.cells t), ?_, _, alloc_left hr (cs := y.cells.toList) (post := []) (by simp) (rowOf_ok hz hx), ?_⟩
  · simp [Instr.box, newVar, newRow]
  · simp only [AV.relV, AV.rel]
    exact ⟨_, last_id hr _, rfl⟩

theorem rel_agg_size {x : AV} {y : Value} {X : Nat → Prop} (hx : AV.relV X w ρ x y) (hs : x.isAggV = true ∨ x.one = true ∧ x ≠ .any) : y.cells.size = x.size ∧ (∀ v ∈ y.cells.toList, flat v = true → True) := by
  rcases hs with hs | ⟨h1, h2⟩
  · obtain ⟨cs, rfl, _, hz⟩ := parts_rel hs hx
    exact ⟨hz, fun _ _ _ => trivial⟩
  · have hr := rel_of_relV h1 h2 hx
    have hf := rel_flat h1 hr
    refine ⟨?_, fun _ _ _ => trivial⟩
    rw [one_size h1]
    cases y <;> first | rfl | cases hf
end
end Go.Ax

namespace Go.Ax
section
variable {X : Nat → Prop} {w : World}
theorem flat_ints {k : IntKind} {l : List Int} : ∀ v ∈ l.map (Value.int k), flat v = true := by
  intro v hv
  obtain ⟨i, _, rfl⟩ := List.mem_map.1 hv
  rfl

mutual
theorem rel_flats : ∀ (p : AV) (ρ : List (Option Nat)) (cs : List Value), AV.rel X w ρ p cs → ∀ v ∈ cs, flat v = true
  | .v x, ρ, cs, h => by simp only [AV.rel] at h; rw [h.1]; simpa using h.2
  | .arr n k l, ρ, cs, h => by simp only [AV.rel] at h; rw [h.1]; exact flat_ints
  | .agg ps, ρ, cs, h => by simp only [AV.rel] at h; exact relAll_flats ps ρ cs h
  | .tup ps, ρ, cs, h => by simp only [AV.rel] at h
  | .ptr b base i, ρ, cs, h => by simp only [AV.rel] at h; obtain ⟨r, _, rfl⟩ := h; simp [flat]
  | .sl b base sz off len cap, ρ, cs, h => by
    simp only [AV.rel] at h; rcases h with ⟨r, o, _, rfl, _⟩ | ⟨_, rfl, _⟩ <;> simp [flat]
  | .roI k l, ρ, cs, h => by simp only [AV.rel, roAt] at h; rcases h with ⟨a, c, rfl, _⟩ | ⟨_, a, rfl⟩ <;> simp [flat]
  | .roL sz es, ρ, cs, h => by simp only [AV.rel, roAt] at h; obtain ⟨vs, _, h, _⟩ := h; rcases h with ⟨a, c, rfl, _⟩ | ⟨_, a, rfl⟩ <;> simp [flat]
  | .rop x, ρ, cs, h => by simp only [AV.rel] at h; obtain ⟨a, vs, rfl, _⟩ := h; simp [flat]
  | .lst sz es, ρ, cs, h => by simp only [AV.rel] at h; exact relAll_flats es [] cs h.1
  | .fn f a b, ρ, cs, h => by simp only [AV.rel] at h; obtain ⟨r, _, rfl, _⟩ := h; simp [flat]
  | .any, ρ, cs, h => by simp only [AV.rel] at h; obtain ⟨r, rfl, h⟩ := h; simpa using h
theorem relAll_flats : ∀ (ps : List AV) (ρ : List (Option Nat)) (cs : List Value), relAll X w ρ ps cs → ∀ v ∈ cs, flat v = true
  | [], ρ, cs, h => by simp only [relAll] at h; simp [h]
  | p :: ps, ρ, cs, h => by
    simp only [relAll] at h
    obtain ⟨a, b, rfl, h1, h2⟩ := h
    intro v hv
    rcases List.mem_append.1 hv with hv | hv
    · exact rel_flats p ρ a h1 v hv
    · exact relAll_flats ps ρ b h2 v hv
end
end

section
variable {P : Program} {E : Nat → Prop} {w0 : World} {F : Nat → Prop} {n : Nat} {r0 : List (Option Nat)} {ρ : List (Option Nat)} {e : Env} {h : List Blk} {a : Act} {w : World}

theorem write_ok (hr : Rep E w0 F n r0 ρ ⟨e, h⟩ a w) {b r base i : Nat} {ps pre qs qs' : List AV} {vs : List Value} (hb : row h b = some ps) (hρ : ρ[b]? = some (some r))
    (ht : rowTake ps base = some pre) (hd : rowDrop ps base = some qs) (hf : ∀ v ∈ vs, flat v = true)
    (hq : ∀ cs, relAll (XOf E ρ h) w ρ qs cs → (i + vs.length ≤ cs.length ∨ vs.length = 0) ∧ relAll (XOf E ρ h) w ρ qs' (cs.take i ++ vs ++ cs.drop (i + vs.length))) :
    ∃ w', (storeCells ⟨r, base + i, none⟩ vs).run P w = .ok () w' ∧ Rep E w0 F n r0 ρ ⟨e, h.set b (some (pre ++ qs'))⟩ a w' := by
  have hb' := row_some hb
  have h1 := hr.hp.blk b ps hb'
  rw [hρ] at h1
  obtain ⟨c, t, fz, hc, hz, cs, post, hl, hp⟩ := h1
  have h2 := rowTake_rel hp ht
  have h3 := rowDrop_rel hp hd
  obtain ⟨h4, h5⟩ := hq _ h3
  have hcl : c.size = cs.length + post.length := by rw [← Array.length_toList, hl]; simp
  rcases h4 with h4 | h4
  · simp only [List.length_drop] at h4
    have h2l := h2.2
    obtain ⟨c', hrun, hc'⟩ := store_run (P := P) (r := r) vs (base + i) 0 c w hc (by omega) hz hf
    refine ⟨_, hrun, ?_⟩
    simp only [Nat.add_zero] at hc'
    have e1 : (cs ++ post).take (base + i) = cs.take base ++ (cs.drop base).take i := by
      rw [List.take_append_of_le_length (by omega), List.take_add]
    have e2 : (cs ++ post).drop (base + i + vs.length) = (cs.drop base).drop (i + vs.length) ++ post := by
      rw [List.drop_append_of_le_length (by omega), List.drop_drop]; congr 2; omega
    refine hr.write hb' hρ hc ?_ hz (cs := cs.take base ++ ((cs.drop base).take i ++ vs ++ (cs.drop base).drop (i + vs.length))) (post := post) ?_ ?_
    · rw [← Array.length_toList, hc', hl, e1, e2]
      simp; omega
    · rw [hc', hl, e1, e2]; simp
    · rw [relAll_append]
      exact ⟨_, _, rfl, h2.1, h5⟩
  · have hv : vs = [] := List.eq_nil_of_length_eq_zero h4
    subst hv
    refine ⟨w, rfl, ?_⟩
    have hself : setRow w r c = w := by
      have h1 : (setRow w r c).heap = w.heap := by
        apply Array.ext_getElem?
        intro i
        by_cases h : i = r
        · subst h; rw [setRow_same hc, hc]
        · exact setRow_other w r c i h
      have h2 : setRow w r c = { w with heap := (setRow w r c).heap } := rfl
      rw [h2, h1]
    rw [← hself]
    refine hr.write hb' hρ hc rfl hz (cs := cs) hl ?_
    have : cs = cs.take base ++ ((cs.drop base).take i ++ [] ++ (cs.drop base).drop (i + 0)) := by simp only [List.append_nil, Nat.add_zero, List.take_append_drop]
    rw [this, relAll_append]
    exact ⟨_, _, rfl, h2.1, h5⟩

theorem store_ok (hr : Rep E w0 F n r0 ρ ⟨e, h⟩ a w) {t : TypeId} {addr x : AV} {ya y : Value} {h' : List Blk} (ha : AV.relV (XOf E ρ h) w ρ addr ya) (hx : AV.relV (XOf E ρ h) w ρ x y)
    (hs : storeA P h t addr x = some h') : ∃ w', (Instr.storeAt t ya y).run P w = .ok () w' ∧ Rep E w0 F n r0 ρ ⟨e, h'⟩ a w' := by
  unfold storeA at hs
  split at hs
  · rename_i b base i
    split at hs
    · rename_i ps s g hb hsz hg
      split at hs
      · rename_i hc
        obtain ⟨hxs, hxg⟩ := hc
        obtain ⟨pre, ht, hs⟩ := Option.bind_eq_some_iff.1 hs
        obtain ⟨qs, hd, hs⟩ := Option.bind_eq_some_iff.1 hs
        obtain ⟨qs', hq, rfl⟩ := Option.map_eq_some_iff.1 hs
        simp only [AV.relV, AV.rel] at ha
        obtain ⟨r, hρ, hy⟩ := ha
        injection hy with hy _
        subst hy
        have key : y.cells.size = s ∧ (∀ v ∈ y.cells.toList, flat v = true) ∧ ∀ cs, relAll (XOf E ρ h) w ρ qs cs → (i + y.cells.toList.length ≤ cs.length ∨ y.cells.toList.length = 0) ∧
            relAll (XOf E ρ h) w ρ qs' (cs.take i ++ y.cells.toList ++ cs.drop (i + y.cells.toList.length)) := by
          split at hq
          · rename_i hgt
            have hxa : x.isAggV = true := by rw [hxg]; exact hgt
            obtain ⟨vs, rfl, hp, hvs⟩ := parts_rel hxa hx
            refine ⟨by show vs.size = s; rw [hvs, hxs], relAll_flats _ _ _ hp, ?_⟩
            intro cs hcs
            obtain ⟨vs2, he, _, h3, h4⟩ := rowPut_rel hcs hx hq
            injection he with he
            subst he
            exact ⟨by simpa [Value.cells] using h3, by simpa [Value.cells] using h4⟩
          · rename_i hgf
            have hex : ∀ cs, relAll (XOf E ρ h) w ρ qs cs → i < cs.length ∧ flat y = true ∧ relAll (XOf E ρ h) w ρ qs' (cs.set i y) := fun cs hcs => rowSet_rel hcs hx hq
            have hb1 := hr.hp.blk b ps (row_some hb)
            rw [hρ] at hb1
            obtain ⟨c, tt, fz, hc, hz, cs, post, hl, hp⟩ := hb1
            have hfy := (hex _ (rowDrop_rel hp hd)).2.1
            have hyc : y.cells = #[y] := by cases y <;> first | rfl | cases hfy
            rw [hyc]
            have hone : x.size = 1 := by
              cases x <;> simp only [AV.isAggV] at hxg <;> first | rfl | (subst hxg; simp at hgf) | skip
              simp only [AV.relV, AV.rel] at hx
              have := relAll_sizes_len hx.1 hx.2
              simpa [AV.size] using this.symm
            refine ⟨by rw [← hxs, hone]; rfl, by simpa using hfy, ?_⟩
            intro cs hcs
            obtain ⟨h1, _, h3⟩ := hex cs hcs
            refine ⟨.inl (by simp; omega), ?_⟩
            have : cs.set i y = cs.take i ++ [y] ++ cs.drop (i + 1) := by
              rw [List.set_eq_take_append_cons_drop, if_pos h1]; simp
            rw [this] at h3
            exact h3
        obtain ⟨k1, k2, k3⟩ := key
        obtain ⟨w', hrun, hrep⟩ := write_ok (P := P) hr hb hρ ht hd k2 k3
        refine ⟨w', ?_, hrep⟩
        simp [Instr.storeAt, Instr.sureAddr, storeVar, run_sz hsz, k1, hrun]
      · cases hs
    · cases hs
  · cases hs
end
end Go.Ax

namespace Go.Ax
section
variable {P : Program} {E : Nat → Prop} {w0 : World} {F : Nat → Prop} {n : Nat} {r0 : List (Option Nat)} {ρ : List (Option Nat)} {e : Env} {h : List Blk} {a : Act} {w : World}

theorem room_alloc {c : Array Value} {t : TypeId} {m : Nat} (hm : m ≤ c.size) : room (w.alloc (.cells c t)) w.heap.size m := ⟨c, t, _, heap_alloc_new w _, hm⟩

theorem drew_alloc_left (hr : Rep E w0 F n r0 ρ ⟨e, h⟩ a w) {ps : List AV} {c : Array Value} {t : TypeId} {cs post : List Value} (hc : c.toList = cs ++ post) (hp : relAll (XOf E ρ h) w ρ ps cs) :
    Rep E w0 F n r0 (ρ ++ [some w.heap.size]) ⟨e, h ++ [some ps]⟩ a (w.drew.alloc (.cells c t)) := by
  have := alloc_left (t := t) hr.drew hc (relAll_keep (Frame.drew (F := XOf E ρ h)).keep (fun _ _ h => h) _ _ _ _ (fun _ _ h => h) hp)
  exact this

theorem new_sl (hr : Rep E w0 F n r0 ρ ⟨e, h⟩ a w) {w' : World} {X : Nat → Prop} {sz len cap : Nat} {r : Nat} (hroom : room w' r (cap * sz)) (hl : len ≤ cap) :
    AV.relV X w' (ρ ++ [some r]) (.sl h.length 0 sz 0 len cap) (.slice (some ⟨r, 0, none⟩) len cap) :=
  sl_mk (last_id hr _) (.inl (by simp)) (by simpa using hroom) hl

theorem makeSlice_ok (hr : Rep E w0 F n r0 ρ ⟨e, h⟩ a w) {t : TypeId} {l c : AV} {yl yc : Value} {out : Out} (hl : AV.relV (XOf E ρ h) w ρ l yl) (hc : AV.relV (XOf E ρ h) w ρ c yc)
    (hs : makeSliceA P h t l c = some out) : ∃ z w', (Instr.makeSlice t yl yc).run P w = .ok z w' ∧ Left E w0 F n r0 e a out z w' := by
  unfold makeSliceA at hs
  split at hs
  · rename_i l' c' bytes s hb hsz
    obtain ⟨⟨h1, h2, h3, h4⟩, hs⟩ := oguard_some hs
    obtain ⟨ps, hps, rfl⟩ := Option.map_eq_some_iff.1 hs
    cases v_int hl; cases v_int hc
    unfold elemBytes at hb; unfold elemSize at hsz; unfold elemZero at hps
    split at hb
    · rename_i el hu
      rw [hu] at hsz hps
      simp only at hsz hps
      obtain ⟨i, z, hi, hz, hzs, hrel⟩ := zerosT_ok hps
      have hbi : i.bytes = bytes := by simpa [bytesT, hi] using hb
      have hsi : i.size = s := by simpa [szT, hi] using hsz
      have hwl : IntKind.i64.wrap l' = l' := by
        unfold IntKind.wrap IntKind.bits IntKind.signed; simp; omega
      have hwc : IntKind.i64.wrap c' = c' := by
        unfold IntKind.wrap IntKind.bits IntKind.signed; simp; omega
      let cells : Array Value := (Array.range (c'.toNat * i.size)).map (fun j => z.cells[j % z.cells.size]!)
      have hcl : cells.toList = (List.replicate c'.toNat z.cells.toList).flatten := by
        simp only [cells, Array.toList_map, Array.toList_range, ← hzs]
        exact range_mod z.cells c'.toNat
      have hcs : cells.size = c'.toNat * s := by simp [cells, hsi]
      refine ⟨.slice (some ⟨w.heap.size, 0, none⟩) l'.toNat c'.toNat, w.alloc (.cells cells el), ?_, _, alloc_left hr (cs := cells.toList) (post := []) (by simp) (by rw [hcl]; exact hrel _ _ _), ?_⟩
      · have h5 : ¬ (c' < 0) := by omega
        have h6 : decide ((bytes : Int) * c' > 2 ^ 48) = false := by simp only [decide_eq_false_iff_not]; omega
        have h7 : ¬ (l' < 0) := by omega
        have h8 : ¬ (c' < l') := by omega
        simp only [Instr.makeSlice, Sem.run_bind, run_und hu, Result.andThen_ok, asInt, asIntOf, Sem.run_pure, typeInfo, run_program, hi, hbi, hwl, hwc]
        simp only [h5, h6, h7, h8, decide_false, Bool.or_false, Bool.false_or, Bool.false_eq_true, if_false, Sem.run_bind, run_askRoom, Result.andThen_ok, sizeOf, typeInfo, run_program, hi, Sem.run_pure]
        have hw : ∀ c : Array Value, ({ w with heap := w.heap.push (.cells c el) } : World) = w.alloc (.cells c el) := fun _ => rfl
        split
        · rename_i h0
          have hr0 : Array.range 0 = #[] := rfl
          have : cells = #[] := by simp only [cells, h0, hr0]; simp
          simp only [Sem.run_bind, Sem.run_pure, Result.andThen_ok, newRow, run_newObj, hw, this, h0, hr0]
          simp
        · simp only [Sem.run_bind, Sem.run_pure, Result.andThen_ok, zeroValue, typeInfo, run_program, hi, hz, newRow, run_newObj, hw]
          rfl
      · exact new_sl hr (room_alloc (by rw [hcs]; exact Nat.le_refl _)) (by omega)
    · cases hb
  · cases hs

theorem flat_cells {v : Value} (h : flat v = true) : v.cells = #[v] := by cases v <;> first | rfl | cases h

theorem fill_one {cells : Array Value} {i : Nat} {v : Value} {rest : List (Nat × Value)} (hf : flat v = true) (hi : i < cells.size) :
    Instr.fill (fun i => some (i * 1, 1)) cells ((i, v) :: rest) = Instr.fill (fun i => some (i * 1, 1)) (cells.setIfInBounds i v) rest := by
  simp only [Instr.fill, flat_cells hf]
  have : ¬ (cells.size < i + 1) := by omega
  simp [this]

theorem fill_ints {k : IntKind} {e : Env} {rv : Operand → Value} {X : Nat → Prop} (he : ∀ x, AV.relV X w ρ (ev e x) (rv x)) : ∀ (parts : List (Nat × Operand)) (l l' : List Int) (cells : Array Value),
    cells.toList = l.map (Value.int k) → layInts k (parts.map fun (i, x) => (i, ev e x)) l = some l' →
    ∃ cells', Instr.fill (fun i => some (i * 1, 1)) cells (parts.map fun (i, x) => (i, rv x)) = some cells' ∧ cells'.toList = l'.map (Value.int k)
  | [], l, l', cells, hc, hl => by
    simp only [List.map_nil, layInts, Option.some.injEq] at hl
    subst hl
    exact ⟨cells, rfl, hc⟩
  | (i, x) :: r, l, l', cells, hc, hl => by
    simp only [List.map_cons] at hl ⊢
    have hx := he x
    unfold layInts at hl
    split at hl
    · rename_i heq; cases heq
    · rename_i heq
      split at hl
      · rename_i hk
        injection heq with h1 h2
        injection h1 with h3 h4
        subst h3 h2
        rw [h4] at hx
        obtain ⟨rfl, hi⟩ := hk
        have hv := v_int hx
        have hsz : i < cells.size := by rw [← Array.length_toList, hc]; simpa using hi
        rw [hv, fill_one rfl hsz]
        refine fill_ints he r _ l' _ ?_ hl
        rw [Array.toList_setIfInBounds, hc, List.map_set]
      · cases hl
    · cases hl

theorem fill_ones {e : Env} {rv : Operand → Value} {X : Nat → Prop} (he : ∀ x, AV.relV X w ρ (ev e x) (rv x)) : ∀ (parts : List (Nat × Operand)) (l l' : List AV) (cells : Array Value),
    relAll X w ρ l cells.toList → (∀ x ∈ l, x.one = true) → layOnes (parts.map fun (i, x) => (i, ev e x)) l = some l' →
    ∃ cells', Instr.fill (fun i => some (i * 1, 1)) cells (parts.map fun (i, x) => (i, rv x)) = some cells' ∧ relAll X w ρ l' cells'.toList
  | [], l, l', cells, hc, _, hl => by
    simp only [List.map_nil, layOnes, Option.some.injEq] at hl
    subst hl
    exact ⟨cells, rfl, hc⟩
  | (i, x) :: r, l, l', cells, hc, ho, hl => by
    simp only [List.map_cons] at hl ⊢
    have hx := he x
    unfold layOnes at hl
    split at hl
    · rename_i hk
      obtain ⟨hi, hs⟩ := hk
      have h1 : (ev e x).one = true ∧ ev e x ≠ .any := by cases h : ev e x <;> simp_all [AV.solid, AV.one]
      have hr := rel_of_relV h1.1 h1.2 hx
      have hf := rel_flat h1.1 hr
      have key : ∀ (l : List AV) (cs : List Value) (i : Nat), relAll X w ρ l cs → (∀ x ∈ l, x.one = true) → i < l.length → l.length = cs.length ∧ relAll X w ρ (l.set i (ev e x)) (cs.set i (rv x)) := by
        intro l
        induction l with
        | nil => intro cs i _ _ h; simp at h
        | cons p l ih =>
          intro cs i hc ho hi
          simp only [relAll] at hc
          obtain ⟨a, b, rfl, h2, h3⟩ := hc
          have hl := rel_len _ _ _ h2
          rw [one_size (ho p (by simp))] at hl
          obtain ⟨y, rfl⟩ := List.length_eq_one_iff.1 hl
          cases i with
          | zero =>
            refine ⟨?_, relAll_mk (a := [rv x]) (by simp) hr h3⟩
            have : l.length = b.length := by
              have := relAll_len _ _ _ h3
              have h5 : ∀ l : List AV, (∀ x ∈ l, x.one = true) → psize l = l.length := by
                intro l
                induction l with
                | nil => intro _; rfl
                | cons p l ih => intro ho; simp only [psize, List.length_cons, one_size (ho p (by simp)), ih (fun x hx => ho x (by simp [hx]))]; omega
              rw [this, h5 l (fun x hx => ho x (by simp [hx]))]
            simp [this]
          | succ i =>
            obtain ⟨h4, h5⟩ := ih b i h3 (fun x hx => ho x (by simp [hx])) (by simpa using hi)
            exact ⟨by simp [h4], relAll_mk (a := [y]) (by simp) h2 h5⟩
      obtain ⟨h2, h3⟩ := key l cells.toList i hc ho hi
      rw [fill_one hf (by rw [← Array.length_toList, ← h2]; exact hi)]
      refine fill_ones he r _ l' _ ?_ ?_ hl
      · rw [Array.toList_setIfInBounds]; exact h3
      · intro y hy
        rcases List.mem_or_eq_of_mem_set hy with hy | rfl
        · exact ho y hy
        · exact h1.1
    · cases hl

theorem rel_arr_cells {X : Nat → Prop} {n : Nat} {k : IntKind} {l : List Int} {cs : List Value} (h : relAll X w ρ [.arr n k l] cs) : cs = l.map (Value.int k) ∧ l.length = n := by
  rw [relAll_one] at h; simpa only [AV.rel] using h

theorem buildSlice_ok (hr : Rep E w0 F n r0 ρ ⟨e, h⟩ a w) {t : TypeId} {m : Nat} {parts : Array (Nat × Operand)} {rv : Operand → Value} {out : Out} (he : ∀ x, AV.relV (XOf E ρ h) w ρ (ev e x) (rv x))
    (hs : buildSliceA P h t m (parts.toList.map fun (i, x) => (i, ev e x)) = some out) :
    ∃ z w', (Instr.buildSlice t m (parts.map fun (i, x) => (i, rv x))).run P w = .ok z w' ∧ Left E w0 F n r0 e a out z w' := by
  have main : ∀ (el : TypeId) (i : TypeInfo) (z : Value) (cells' : Array Value) (ps : List AV), P.underlying t = some (.slice el) → P.info? el = some i → i.zero = some z → z.cells.size = i.size → i.size = 1 → m ≤ 16777216 →
      Instr.fill (fun i => some (i * 1, 1)) ((Array.range (m * 1)).map (fun j => z.cells[j % z.cells.size]!)) (parts.toList.map fun (i, x) => (i, rv x)) = some cells' → cells'.size = m →
      relAll (XOf E ρ h) w ρ ps cells'.toList →
      ∃ z w', (Instr.buildSlice t m (parts.map fun (i, x) => (i, rv x))).run P w = .ok z w' ∧ Left E w0 F n r0 e a (.one (.sl h.length 0 1 0 m m) (h ++ [some ps])) z w' := by
    intro el i z cells' ps hu hi hz hzs hs1 hm hfill hcs hrel
    refine ⟨.slice (some ⟨w.heap.size, 0, none⟩) m m, w.alloc (.cells cells' el), ?_, _, alloc_left hr (cs := cells'.toList) (post := []) (by simp) hrel, ?_⟩
    · have h5 : ¬ (m * 1 > 2 ^ 24) := by omega
      simp only [Instr.buildSlice, Sem.run_bind, run_und hu, Result.andThen_ok, sizeOf, typeInfo, run_program, hi, Sem.run_pure, hs1, h5, if_false]
      split
      · rename_i h0
        have h0' : m = 0 := by omega
        subst h0'
        simp only [Nat.zero_mul] at hfill
        simp only [Sem.run_bind, Sem.run_pure, Result.andThen_ok, Array.toList_map, Nat.zero_mul]
        have : (Array.range 0).map (fun j => (#[] : Array Value)[j % (#[] : Array Value).size]!) = (Array.range 0).map (fun j => z.cells[j % z.cells.size]!) := by simp
        rw [this, hfill]
        simp [newRow]
      · simp only [Sem.run_bind, zeroValue, typeInfo, run_program, Result.andThen_ok, hi, hz, Sem.run_pure, Array.toList_map, hfill]
        simp [newRow]
    · exact new_sl hr (room_alloc (by omega)) (Nat.le_refl _)
  unfold buildSliceA at hs
  unfold elemZero elemSize at hs
  cases hu : P.underlying t with
  | none => rw [hu] at hs; simp at hs
  | some d =>
    cases d with
    | slice el =>
      rw [hu] at hs
      simp only at hs
      split at hs
      · rename_i n' k l hz hsz
        split at hs
        · rename_i hc
          obtain ⟨rfl, hm⟩ := hc
          obtain ⟨l', hlay, rfl⟩ := Option.map_eq_some_iff.1 hs
          obtain ⟨i, z, hi, hz, hzs, hrel⟩ := zerosT_ok hz
          have hsi : i.size = 1 := by simpa [szT, hi] using hsz
          obtain ⟨h1, h2⟩ := rel_arr_cells (hrel (XOf E ρ h) w ρ)
          have h3 : ((Array.range (m * 1)).map (fun j => z.cells[j % z.cells.size]!)).toList = l.map (Value.int k) := by
            rw [← h1, Array.toList_map, Array.toList_range, ← hsi, ← hzs]
            exact range_mod z.cells m
          obtain ⟨cells', hf, hcl⟩ := fill_ints he parts.toList l l' _ h3 hlay
          have hlen : ∀ (parts : List (Nat × AV)) (l l' : List Int), layInts k parts l = some l' → l'.length = l.length := by
            intro parts
            induction parts with
            | nil => intro l l' h; simp only [layInts, Option.some.injEq] at h; rw [h]
            | cons p r ih =>
              intro l l' h
              unfold layInts at h
              split at h
              · rename_i heq; cases heq
              · split at h
                · rename_i heq _; cases heq; have := ih _ _ h; simpa using this
                · cases h
              · cases h
          have hl' := hlen _ _ _ hlay
          refine main el i z cells' _ hu hi hz hzs hsi hm hf ?_ ?_
          · rw [← Array.length_toList, hcl]; simp [hl', h2]
          · rw [relAll_one]; simp only [AV.rel]; exact ⟨hcl, by omega⟩
        · cases hs
      · rename_i es hz hsz
        split at hs
        · rename_i hm
          obtain ⟨es', hlay, rfl⟩ := Option.map_eq_some_iff.1 hs
          obtain ⟨i, z, hi, hz', hzs, hrel⟩ := zerosT_ok hz
          have hsi : i.size = 1 := by simpa [szT, hi] using hsz
          have h1 := hrel (XOf E ρ h) w ρ
          rw [relAll_one] at h1
          simp only [AV.rel] at h1
          have h3 : ((Array.range (m * 1)).map (fun j => z.cells[j % z.cells.size]!)).toList = (List.replicate m z.cells.toList).flatten := by
            rw [Array.toList_map, Array.toList_range, ← hsi, ← hzs]
            exact range_mod z.cells m
          have h4 : relAll (XOf E ρ h) w ρ es ((Array.range (m * 1)).map (fun j => z.cells[j % z.cells.size]!)).toList := by
            rw [h3]; exact relAll_keep Keep.refl (fun _ _ h => h) _ [] ρ _ (by simp) h1.1
          obtain ⟨cells', hf, hcl⟩ := fill_ones he parts.toList es es' _ h4 (fun x hx => (h1.2 x hx).2 rfl) hlay
          have hfsz : ∀ (parts : List (Nat × Value)) (c c' : Array Value), Instr.fill (fun i => some (i * 1, 1)) c parts = some c' → c'.size = c.size := by
            intro parts
            induction parts with
            | nil => intro c c' h; simp only [Instr.fill, Option.some.injEq] at h; rw [h]
            | cons p r ih =>
              intro c c' h
              obtain ⟨i, v⟩ := p
              simp only [Instr.fill] at h
              split at h
              · cases h
              · rw [ih _ _ h]
                rename_i hn
                simp at hn
                have hone : v.cells.size = 1 := hn.1
                have hvl : v.cells = #[v.cells[0]] := by
                  apply Array.ext
                  · simp [hone]
                  · intro j hj1 hj2; simp at hj2; subst hj2; rfl
                rw [hvl]
                simp
          refine main el i z cells' _ hu hi hz' hzs hsi hm hf ?_ hcl
          rw [hfsz _ _ _ hf]; simp
        · cases hs
      · cases hs
    | _ => rw [hu] at hs; simp at hs

theorem strBytes_ok (hr : Rep E w0 F n r0 ρ ⟨e, h⟩ a w) {src dst : TypeId} {x : AV} {y : Value} {out : Out} (hx : AV.relV (XOf E ρ h) w ρ x y) (hs : strBytesA P h src dst x = some out) :
    ∃ z w', (convert src dst y).run P w = .ok z w' ∧ Left E w0 F n r0 e a out z w' := by
  unfold strBytesA at hs
  split at hs
  · rename_i s h1 h2
    cases hs
    simp only [AV.relV, AV.rel] at hx
    have hx := hx.1
    injection hx with hx _
    subst hx
    obtain ⟨el, hu, hue⟩ := kindT_bytes h2
    have hu1 := kindT_string h1
    have hge : s.size ≤ grownCap w s.size 0 el := grownCap_ge' w _ _ _
    let cells : Array Value := (s.data.map fun b => Value.int .u8 b.toNat) ++ Array.replicate (grownCap w s.size 0 el - s.size) (.int .u8 0)
    have hsz : cells.size = grownCap w s.size 0 el := by
      simp only [cells, Array.size_append, Array.size_map, Array.size_replicate]
      have : s.data.size = s.size := rfl
      omega
    let w1 := w.drew.alloc (.cells cells el)
    let w2 : World := w1.freeze { block := w.heap.size, off := cells.size } 1
    have hnew : w2.heap[w.heap.size]? = some (.cells cells el (cells.size, cells.size + 1)) := by
      have := heap_alloc_new w.drew (.cells cells el)
      have h0 : w1.heap[w.heap.size]? = some (.cells cells el (0, 0)) := this
      simp only [w2, World.freeze, Nat.one_ne_zero, if_false, Array.getElem?_modify, if_true, h0, Option.map_some, beq_self_eq_true]
    have hold : ∀ r, r < w.heap.size → w2.heap[r]? = w.heap[r]? := by
      intro r hlt
      simp only [w2, World.freeze, Nat.one_ne_zero, if_false, Array.getElem?_modify]
      rw [if_neg (by omega)]
      exact heap_alloc_old w.drew _ r hlt
    have hsize : w2.heap.size = w.heap.size + 1 := by simp [w2, World.freeze, w1]
    have hfr : Frame (fun _ => False) w w2 := by
      refine ⟨by omega, fun r hlt _ => hold r hlt, ?_, rfl, rfl, rfl⟩
      rintro r m ⟨c, ee, fz, hc, hm⟩
      exact ⟨c, ee, fz, (hold r (room.lt ⟨c, ee, fz, hc, hm⟩)).trans hc, hm⟩
    have hcl : cells.toList = (strOf s).map (Value.int .u8) ++ List.replicate (grownCap w s.size 0 el - s.size) (.int .u8 0) := by
      simp only [cells, Array.toList_append, Array.toList_map, Array.toList_replicate, strOf, List.map_map]
      rfl
    refine ⟨.slice (some ⟨w.heap.size, 0, none⟩) s.size (grownCap w s.size 0 el), w2, ?_, grownCap w s.size 0 el, _, hge, hr.alloc hfr hnew (.inr (Nat.le_refl _)) hcl ?_, ?_⟩
    · simp only [convert, Sem.run_bind, run_und hu1, run_und hu, Result.andThen_ok, run_und hue, Conv.stringToBytes, run_choose, Question.forced, Bool.false_eq_true, if_false, newRow, run_newObj, Sem.run_pure, markStringish, run_shape]
      have hsh : (w.drew.alloc (.cells cells el)).shape? w.heap.size = some (el, cells.size) := by
        have := heap_alloc_new w.drew (.cells cells el)
        have h0 : (w.drew.alloc (.cells cells el)).heap[w.heap.size]? = some (.cells cells el (0, 0)) := this
        unfold World.shape?; rw [h0]
      have e1 : ({ w.drew with heap := w.drew.heap.push (.cells cells el) } : World) = w1 := rfl
      show ((Sem.run P (match w1.shape? w.heap.size with | some (_, n) => freeze { block := w.heap.size, off := n } 1 | _ => pure ()) w1).andThen _) = _
      rw [hsh]
      rfl
    · rw [relAll_one]; simp only [AV.rel]; exact ⟨trivial, by simp [strOf]⟩
    · exact new_sl hr ⟨cells, el, _, hnew, by omega⟩ hge
  · cases hs
theorem mark_ok (hr : Rep E w0 F n r0 ρ ⟨e, h⟩ a w) {src dst : TypeId} {x : AV} {y : Value} {out : Out} (hx : AV.relV (XOf E ρ h) w ρ x y) (hs : markA P h src dst x = some out) :
    ∃ z w', (convert src dst y).run P w = .ok z w' ∧ Left E w0 F n r0 e a out z w' := by
  unfold markA at hs
  split at hs
  · rename_i b base sz off len cap hk
    split at hs
    · rename_i hc
      obtain ⟨rfl, hlen, hrow⟩ := hc
      cases hs
      obtain ⟨el, hu, hue⟩ := kindT_bytes hk
      obtain ⟨ps, hps⟩ := Option.isSome_iff_exists.1 hrow
      have hb := row_some hps
      have hx0 := hx
      simp only [AV.relV, AV.rel] at hx
      rcases hx with ⟨r, o, hρ, hy, hroom, hcap, hle⟩ | ⟨_, _, h1, _⟩
      · cases hy
        have hblk := hr.hp.blk b ps hb
        rw [hρ] at hblk
        obtain ⟨c, el2, fz, hc, hfz, _⟩ := hblk
        obtain ⟨z, hz⟩ : ∃ z : Nat × Nat, (if fz.1 == fz.2 then (c.size, c.size + 1) else (min fz.1 c.size, max fz.2 (c.size + 1))) = z := ⟨_, rfl⟩
        have hzz : z.1 = z.2 ∨ c.size ≤ z.1 := by
          right
          rw [← hz]
          split
          · exact Nat.le_refl _
          · rename_i hne
            have : fz.1 ≠ fz.2 := by simpa using hne
            simp only; omega
        have hrep := hr.mark (z := z) hb hρ hc hzz
        refine ⟨.slice (some ⟨r, o, none⟩) len cap, setFz w r z, ?_, ρ, hrep, ?_⟩
        · have hsh : w.shape? r = some (el2, c.size) := by unfold World.shape?; rw [hc]
          simp only [convert, Sem.run_bind, run_und hu, Result.andThen_ok, run_und hue, beq_self_eq_true, markStringish, run_shape, hsh]
          have hf : w.freeze { block := r, off := c.size } 1 = setFz w r z := by
            unfold World.freeze Ax.setFz
            rw [if_neg (by decide)]
            congr 1
            apply Array.ext
            · simp
            · intro i h1 h2
              simp only [Array.getElem_modify]
              split
              · rename_i hi
                subst hi
                have hl : r < w.heap.size := by simpa using h1
                have hc' : w.heap[r] = .cells c el2 fz := by
                  rw [Array.getElem?_eq_getElem hl] at hc
                  exact Option.some.inj hc
                obtain ⟨f1, f2⟩ := fz
                rw [hc', ← hz]
              · rfl
          show ((Sem.run P (freeze { block := r, off := c.size } 1) w).andThen _) = _
          rw [← hf]
          rfl
        · exact relV_keep (Frame.setFz (F := XOf E ρ h) hc (Or.inr ⟨b, hρ, ps, hb⟩)).keep (fun _ _ h => h) _ _ _ _ (fun _ _ h => h) hx0
      · omega
    · cases hs
  · cases hs
end
end Go.Ax

namespace Go.Ax
section
variable {P : Program} {E : Nat → Prop} {w0 : World} {F : Nat → Prop} {n : Nat} {r0 : List (Option Nat)} {ρ : List (Option Nat)} {e : Env} {h : List Blk} {a : Act} {w : World}

theorem elem_of {t : TypeId} {k : IntKind} {bytes : Nat} (h1 : intElem P t = some k) (h2 : elemBytes P t = some bytes) :
    ∃ el i, P.underlying t = some (.slice el) ∧ P.info? el = some i ∧ i.size = 1 ∧ i.bytes = bytes ∧ P.underlying el = some (.int k) ∧ ∃ z, i.zero = some z ∧ z.cells.size = 1 := by
  unfold intElem at h1
  unfold elemBytes at h2
  split at h1
  · rename_i el hu
    rw [hu] at h2
    simp only at h2
    split at h1
    · rename_i k' zz hk hs hzz
      cases h1
      unfold szT at hs
      obtain ⟨i, hi, hs⟩ := Option.map_eq_some_iff.1 hs
      obtain ⟨i', z, hi', hz, hr⟩ := zeroT_ok hzz
      rw [hi] at hi'
      cases hi'
      refine ⟨el, i, hu, hi, hs, ?_, kindT_int hk, z, hz, ?_⟩
      · simpa [bytesT, hi] using h2
      · have := relAll_len _ _ _ (hr (fun _ => False) default [])
        simpa [psize, AV.size] using this
    · cases h1
  · cases h1

theorem elem_of' {t : TypeId} {k : IntKind} (h1 : intElem P t = some k) :
    ∃ el i, P.underlying t = some (.slice el) ∧ P.info? el = some i ∧ i.size = 1 ∧ P.underlying el = some (.int k) := by
  unfold intElem at h1
  split at h1
  · rename_i el hu
    split at h1
    · rename_i k' zz hk hs hzz
      cases h1
      unfold szT at hs
      obtain ⟨i, hi, hs⟩ := Option.map_eq_some_iff.1 hs
      exact ⟨el, i, hu, hi, hs, kindT_int hk⟩
    · cases h1
  · cases h1

theorem flat_cells1 {v : Value} (h : Ax.flat v = true) : v.cells = #[v] := by cases v <;> first | rfl | cases h

theorem more_of (hh : HRel (XOf E ρ h) ρ h w) {t xT ty el : TypeId} {i : TypeInfo} {z : Value} {k k' : IntKind} {bytes : Nat} {x : AV} {yx : Value} {m : List Int}
    (h1 : intElem P t = some k) (h2 : elemBytes P t = some bytes) (hu : P.underlying t = some (.slice el)) (hi : P.info? el = some i) (hz : i.zero = some z) (hs1 : i.size = 1) (hb : m.length * i.bytes ≤ 140737488355328)
    (hx : AV.relV (XOf E ρ h) w ρ x yx) (hm : moreA P h (kindT P xT) t x = some (k', m)) : Appd P w t xT ty el i z yx m.length (m.map (Value.int k')) := by
  unfold moreA at hm
  split at hm
  · rename_i b hk
    obtain ⟨q, hxT⟩ := kindT_slice hk
    refine appd_src hu (.inl ⟨q, hxT⟩) hi hz ?_
    rw [hs1]
    exact src_ints (P := P) hh hx hm
  · rename_i q hk
    split at hm
    · rename_i n k0 z0 he
      obtain ⟨⟨n1, n2⟩, hm⟩ := oguard_some hm
      cases hm
      obtain ⟨n, rfl⟩ := Int.eq_ofNat_of_zero_le n1
      have hyx := v_int hx
      subst hyx
      unfold elemZ at he
      rw [hu] at he
      simp only at he
      rw [hi] at he
      simp only [Option.bind_some, hz] at he
      split at he
      · rename_i k1 z1 hzz
        cases he
        cases hzz
        have := appd_zero (P := P) (w := w) (t := t) (xT := xT) (ty := ty) hu (kindT_int hk) hi hz hs1 rfl rfl (m := n) (by omega) (by simp at hb; omega)
        simpa using this
      · cases he
    · cases hm
  · cases hm

theorem grown_left (hr : Rep E w0 F n r0 ρ ⟨e, h⟩ a w) {el : TypeId} {z : Value} {k : IntKind} {l m : List Int} {len cap need : Nat} (hl : l.length = len) (hneed : need = len + m.length) (hz : z.cells.size = 1) :
    Left E w0 F n r0 e a (.cap need fun c => (.sl h.length 0 1 0 need c, h ++ [some [.arr need k (l ++ m)]]))
      (.slice (some ⟨w.heap.size, 0, none⟩) need (grownCap w need cap el))
      (w.drew.alloc (.cells ((l.map (Value.int k)).toArray ++ (m.map (Value.int k)).toArray ++ Builtin.zeroCells z.cells (grownCap w need cap el - need)) el)) := by
  have hge := grownCap_ge' w need cap el
  refine ⟨grownCap w need cap el, _, hge, drew_alloc_left hr (cs := (l ++ m).map (Value.int k)) (post := (Builtin.zeroCells z.cells (grownCap w need cap el - need)).toList) (by simp) ?_, ?_⟩
  · rw [relAll_one]; simp only [AV.rel]; exact ⟨trivial, by simp; omega⟩
  · refine new_sl hr ?_ hge
    refine ⟨_, _, _, heap_alloc_new w.drew _, ?_⟩
    simp [Builtin.zeroCells, hz]
    omega

theorem virtual_left (hr : Rep E w0 F n r0 ρ ⟨e, h⟩ a w) {k : IntKind} : Left E w0 F n r0 e a (.cap 0 fun c => (.sl h.length 0 1 0 0 c, h ++ [some [.arr 0 k []]])) (.slice none 0 0) w := by
  refine ⟨0, ρ ++ [none], by simp, ?_, ?_⟩
  · have ho : ∀ r, own (ρ ++ [none]) (h ++ [some [.arr 0 k []]]) r → own ρ h r := by
      intro r hro
      rcases own_snoc hr.hp hro with h | h
      · exact h
      · cases h
    refine hr.step (ρ' := ρ ++ [none]) Frame.refl (fun _ _ h => get_snoc_old h) (fun r h => .inl (ho r h)) ?_
    have hv := hr.hp.virtual (ps := [.arr 0 k []]) (by rw [relAll_one]; simp [AV.rel])
    refine ⟨hv.len, fun b ps hb => (hv.blk b ps hb).keep Keep.refl ?_ (fun _ _ h => h) (fun _ _ => rfl), hv.inj⟩
    rintro r _ (h | h)
    · exact .inl h
    · exact .inr (ho r h)
  · simp only [AV.relV, AV.rel]
    right
    have := hr.hp.len
    simp only at this
    rw [← this]; simp

theorem grow_ok (hr : Rep E w0 F n r0 ρ ⟨e, h⟩ a w) {t xT ty el : TypeId} {i : TypeInfo} {z : Value} {k : IntKind} {l m : List Int} {ys yx : Value} {sb : Option Addr} {len cap : Nat}
    (hi : P.info? el = some i) (hz : i.zero = some z) (hzs : z.cells.size = 1) (hs1 : i.size = 1)
    (hys : ys = .slice sb len cap) (hsl : Src P w 1 ys len (l.map (Value.int k))) (hsm : Appd P w t xT ty el i z yx m.length (m.map (Value.int k)))
    (hg : cap < len + m.length) (hb : (len + m.length) * i.bytes ≤ 140737488355328) (h63 : len + m.length ≤ 9223372036854775807) :
    ∃ z w', (Builtin.append_ #[t, xT] ty #[ys, yx]).run P w = .ok z w' ∧ Left E w0 F n r0 e a (.cap (len + m.length) fun c => (.sl h.length 0 1 0 (len + m.length) c, h ++ [some [.arr (len + m.length) k (l ++ m)]])) z w' := by
  rw [← hs1] at hsl
  have hll : l.length = len := by have := hsl.size; rw [hs1] at this; simpa using this
  have hrun := hsm.new hys (olds := l.map (Value.int k)) (fun w' hw => by
    have := hsl.cells w' hw len (Nat.le_refl _)
    rw [List.take_of_length_le (by rw [hsl.size]; exact Nat.le_refl _)] at this
    exact this) hg hb h63
  exact ⟨_, _, hrun, grown_left hr hll rfl hzs⟩

theorem append_ok (hr : Rep E w0 F n r0 ρ ⟨e, h⟩ a w) {t xT ty : TypeId} {s x : AV} {ys yx : Value} {out : Out} (hs : AV.relV (XOf E ρ h) w ρ s ys) (hx : AV.relV (XOf E ρ h) w ρ x yx)
    (ho : appendA P h t xT s x = some out) : ∃ z w', (Builtin.append_ #[t, xT] ty #[ys, yx]).run P w = .ok z w' ∧ Left E w0 F n r0 e a out z w' := by
  unfold appendA at ho
  split at ho
  · rename_i k bytes k' m hk hby hm
    obtain ⟨el, i, hu, hi, hs1, hb1, hke, z, hz, hzs⟩ := elem_of hk hby
    have happ := fun hb => more_of (P := P) (ty := ty) hr.hp hk hby hu hi hz hs1 hb hx hm
    split at ho
    case isFalse => cases ho
    rename_i hkk
    subst hkk
    split at ho
    · -- nil
      obtain ⟨⟨h1, h2⟩, ho⟩ := oguard_some ho
      cases ho
      simp only [AV.relV, AV.rel] at hs
      have hs := hs.1
      injection hs with hs _
      subst hs
      rcases Nat.eq_zero_or_pos m.length with h0 | h0
      · have hm0 : m = [] := List.eq_nil_of_length_eq_zero h0
        subst hm0
        exact ⟨.slice none 0 0, w, (happ (by simp)).none rfl, virtual_left hr⟩
      · have hrun := (happ (by rw [hb1]; exact h1)).new (s := .slice none 0 0) (olds := []) rfl (fun w' _ => by simp [Builtin.firstCells]) (by omega) (by rw [hb1, Nat.zero_add]; exact h1) (by omega)
        simp only [Nat.zero_add] at hrun
        refine ⟨_, _, hrun, ?_⟩
        exact grown_left hr (l := []) (cap := 0) rfl (by simp) hzs
    · rename_i b base sz off len cap
      split at ho
      · rename_i nn kk l rest hrow
        split at ho
        case isFalse => cases ho
        rename_i hc
        obtain ⟨rfl, rfl, rfl⟩ := hc
        have hrow' := row_some hrow
        split at ho
        · -- the slice of a whole block: the block is let go
          rename_i hoff
          subst hoff
          obtain ⟨⟨h0, h1, h2⟩, ho⟩ := oguard_some ho
          cases ho
          have hap := happ (by rw [hb1]; exact Nat.le_trans (Nat.mul_le_mul_right _ (by omega)) h1)
          simp only [AV.relV, AV.rel] at hs
          have hlen : (h.set b none).length = h.length := by simp
          rcases hs with ⟨r, o, hρ, hy, hrm, hcap, hlc⟩ | ⟨hρ, hy, h3, h4⟩
          · injection hy with hy _
            subst hy
            have hblk := hr.hp.blk b _ hrow'
            rw [hρ] at hblk
            obtain ⟨c, te, fz, hc, hz', cs, post, hl, hp⟩ := hblk
            simp only [relAll] at hp
            obtain ⟨ca, cb, rfl, hp1, hp2⟩ := hp
            simp only [AV.rel] at hp1
            obtain ⟨rfl, rfl⟩ := hp1
            rcases Nat.lt_or_ge cap (len + m.length) with hg | hg
            · have hsl : Src P w 1 (.slice (some ⟨r, o, none⟩) len cap) len ((l.take len).map (Value.int kk)) := by
                have := src_ints (P := P) hr.hp (x := .sl b 0 1 0 len cap) (k := kk) (l := (l.drop 0).take len) (y := .slice (some ⟨r, o, none⟩) len cap)
                  (by simp only [AV.relV, AV.rel]; exact .inl ⟨r, o, hρ, rfl, hrm, hcap, hlc⟩)
                  (by unfold intsOf; simp [hrow, rowDrop, oguard, h0])
                simpa [Nat.min_eq_left h0] using this
              have := grow_ok (P := P) (hr.kill b) (ty := ty) hi hz hzs hs1 rfl hsl hap hg (by rw [hb1]; exact h1) h2
              simpa [hlen] using this
            · have hroom2 : r < w.heap.size := by
                rcases Nat.lt_or_ge r w.heap.size with h' | h'
                · exact h'
                · simp [Array.getElem?_eq_none h'] at hc
              have hsz : c.size = l.length + cb.length + post.length := by rw [← Array.length_toList, hl]; simp; omega
              rcases hcap with hcap | ⟨rfl, hroom⟩
              · have hm0 : m = [] := List.eq_nil_of_length_eq_zero (by omega)
                have hl0 : len = 0 := by omega
                subst hm0 hl0 hcap
                refine ⟨.slice (some ⟨r, o, none⟩) 0 0, setRow w r c, ?_, 0, _, Nat.le_refl _, hr.alias hrow' hρ hc rfl hz' (cs := []) (post := c.toList) (by simp) (by simp [relAll, AV.rel]), ?_⟩
                · have hself : setRow w r c = w := by
                    have h1 : (setRow w r c).heap = w.heap := by
                      apply Array.ext_getElem?
                      intro i
                      by_cases h : i = r
                      · subst h; rw [setRow_same hc, hc]
                      · exact setRow_other w r c i h
                    have h2 : setRow w r c = { w with heap := (setRow w r c).heap } := rfl
                    rw [h2, h1]
                  rw [hself]
                  exact hap.room rfl (by simp) rfl
                · simp only [AV.relV, AV.rel]
                  obtain ⟨c3, te3, fz3, hc3, ho3⟩ := hrm
                  rw [hc] at hc3
                  cases hc3
                  exact .inl ⟨r, o, last_id hr r, rfl, ⟨c, te, fz, setRow_same hc, ho3⟩, by simp, by simp⟩
              · obtain ⟨c2, te2, fz2, hc2, hcs2⟩ := hroom
                rw [hc] at hc2
                cases hc2
                obtain ⟨c', hst, hc'⟩ := store_run (P := P) (r := r) (m.map (Value.int kk)) len 0 c w hc (by simp; omega) hz' hap.flat
                simp only [Nat.add_zero] at hc'
                refine ⟨.slice (some ⟨r, 0, none⟩) (len + m.length) cap, setRow w r c', hap.room rfl hg (by simpa [hs1, addr_add] using hst), cap, ρ ++ [some r], hg, ?_, ?_⟩
                · refine hr.alias hrow' hρ hc ?_ hz' (cs := (l.take len ++ m).map (Value.int kk)) (post := c.toList.drop (len + m.length)) ?_ ?_
                  · rw [← Array.length_toList, hc']; simp; omega
                  · rw [hc', hl]
                    have : ((l.map (Value.int kk) ++ cb) ++ post).take len = (l.take len).map (Value.int kk) := by
                      rw [List.append_assoc, List.take_append_of_le_length (by simpa using h0), List.map_take]
                    rw [this]; simp
                  · rw [relAll_one]; simp only [AV.rel]; exact ⟨trivial, by simp; omega⟩
                · exact new_sl hr ⟨c', te, fz, setRow_same hc, by rw [← Array.length_toList, hc']; simp; omega⟩ hg
          · subst h3 h4
            injection hy with hy _
            subst hy
            rcases Nat.eq_zero_or_pos m.length with h5 | h5
            · have hm0 : m = [] := List.eq_nil_of_length_eq_zero h5
              subst hm0
              have := virtual_left (k := kk) (hr.kill b)
              refine ⟨.slice none 0 0, w, hap.none rfl, ?_⟩
              simpa [hlen] using this
            · have := grow_ok (P := P) (hr.kill b) (ty := ty) (sb := none) (l := []) (len := 0) (cap := 0) hi hz hzs hs1 rfl ⟨fun _ => rfl, fun w' _ n hn => by cases hn; simp [Builtin.firstCells], by simp, by simp⟩ hap (by omega) (by rw [hb1]; exact h1) h2
              simpa [hlen] using this
        · -- a slice of a part of a block, without room
          rename_i hoff
          obtain ⟨⟨h0, hg, h1, h2⟩, ho⟩ := oguard_some ho
          cases ho
          have hap := happ (by rw [hb1]; exact Nat.le_trans (Nat.mul_le_mul_right _ (by omega)) h1)
          have hys : ∃ sb, ys = .slice sb len cap := by
            simp only [AV.relV, AV.rel] at hs
            rcases hs with ⟨r, o, hρ, hy, _⟩ | ⟨hρ, hy, h3, h4⟩
            · injection hy with hy _; exact ⟨_, hy⟩
            · injection hy with hy _; exact ⟨none, by rw [hy, h3, h4]⟩
          obtain ⟨sb, hys⟩ := hys
          have hsl := src_ints (P := P) hr.hp hs (k := kk) (l := (l.drop off).take len) (by unfold intsOf; simp [hrow, rowDrop, oguard, h0])
          have hll : ((l.drop off).take len).length = len := by
            have h4 := hsl.len w
            rw [hys] at h4
            simp [Builtin.lenOf] at h4
            simp
            omega
          rw [hll] at hsl
          exact grow_ok (P := P) hr (ty := ty) hi hz hzs hs1 hys hsl hap hg (by rw [hb1]; exact h1) h2
      · cases ho
    · cases ho
  · cases ho

theorem appendKeep_ok (hr : Rep E w0 F n r0 ρ ⟨e, h⟩ a w) {t xT ty : TypeId} {s x : AV} {ys yx : Value} {out : Out} (hs : AV.relV (XOf E ρ h) w ρ s ys) (hx : AV.relV (XOf E ρ h) w ρ x yx)
    (ho : appendKeepA P h t xT s x = some out) : ∃ z w', (Builtin.append_ #[t, xT] ty #[ys, yx]).run P w = .ok z w' ∧ Left E w0 F n r0 e a out z w' := by
  unfold appendKeepA at ho
  split at ho
  · rename_i k bytes k' m kk l b base sz off len cap hk hby hm hl
    obtain ⟨el, i, hu, hi, hs1, hb1, hke, z, hz, hzs⟩ := elem_of hk hby
    have hsl := src_ints (P := P) hr.hp hs hl
    split at ho
    case isFalse => cases ho
    rename_i hkk
    obtain ⟨rfl, rfl⟩ := hkk
    obtain ⟨⟨hg, h1, h2⟩, ho⟩ := oguard_some ho
    cases ho
    have hap := more_of (P := P) (ty := ty) hr.hp hk hby hu hi hz hs1 (by rw [hb1]; exact Nat.le_trans (Nat.mul_le_mul_right _ (by omega)) h1) hx hm
    have hys : ∃ sb, ys = .slice sb len cap := by
      simp only [AV.relV, AV.rel] at hs
      rcases hs with ⟨r, o, hρ, hy, _⟩ | ⟨hρ, hy, h3, h4⟩
      · injection hy with hy _; exact ⟨_, hy⟩
      · injection hy with hy _; exact ⟨none, by rw [hy, h3, h4]⟩
    obtain ⟨sb, hys⟩ := hys
    have hll : l.length = len := by
      have h4 := hsl.len w
      rw [hys] at h4
      simp [Builtin.lenOf] at h4
      exact h4.symm
    rw [hll] at hsl
    exact grow_ok (P := P) hr (ty := ty) hi hz hzs hs1 hys hsl hap hg (by rw [hb1]; exact h1) h2
  · cases ho

theorem virt_write (hr : Rep E w0 F n r0 ρ ⟨e, h⟩ a w) {b : Nat} {ps qs : List AV} (hb : h[b]? = some (some ps)) (hρ : ρ[b]? = some none) (hq : relAll (XOf E ρ h) w ρ qs []) :
    Rep E w0 F n r0 ρ ⟨e, h.set b (some qs)⟩ a w := by
  have ho : ∀ r, own ρ (h.set b (some qs)) r ↔ own ρ h r := own_set hb
  have hX : XOf E ρ (h.set b (some qs)) = XOf E ρ h := by
    funext r; exact propext (or_congr Iff.rfl (ho r))
  refine hr.step Frame.refl (fun _ _ h => h) (fun r h => .inl ((ho r).1 h)) ?_
  rw [hX]
  have hbl : b < h.length := (List.getElem?_eq_some_iff.1 hb).1
  refine ⟨by have := hr.hp.len; simpa using this, ?_, ?_⟩
  · intro b' ps' hb'
    by_cases e : b = b'
    · subst e
      simp [hbl] at hb'
      subst hb'
      rw [hρ]; exact hq
    · rw [List.getElem?_set_ne e] at hb'
      exact hr.hp.blk b' ps' hb'
  · intro b1 b2 r' h1 h2 l1 l2
    exact hr.hp.inj b1 b2 r' h1 h2 ((live_set hb _).1 l1) ((live_set hb _).1 l2)

theorem copy_ok (hr : Rep E w0 F n r0 ρ ⟨e, h⟩ a w) {t xT ty : TypeId} {d x : AV} {yd yx : Value} {out : Out} (hd : AV.relV (XOf E ρ h) w ρ d yd) (hx : AV.relV (XOf E ρ h) w ρ x yx)
    (ho : copyA P h t d x = some out) : ∃ z w', (Builtin.copy_ #[t, xT] ty #[yd, yx]).run P w = .ok z w' ∧ Left E w0 F n r0 e a out z w' := by
  unfold copyA at ho
  split at ho
  · rename_i k k' m b base off len cap hk hm
    obtain ⟨el, i, hu, hi, hs1, hke⟩ := elem_of' hk
    have hsrc := src_ints (P := P) hr.hp hx hm
    split at ho
    case isFalse => cases ho
    rename_i hkk
    subst hkk
    obtain ⟨ps, hrow, ho⟩ := Option.bind_eq_some_iff.1 ho
    obtain ⟨pre, ht, ho⟩ := Option.bind_eq_some_iff.1 ho
    obtain ⟨qs, hdr, ho⟩ := Option.bind_eq_some_iff.1 ho
    split at ho
    · rename_i nn kk l post
      split at ho
      case isFalse => cases ho
      rename_i hkk
      subst hkk
      obtain ⟨h0, ho⟩ := oguard_some ho
      cases ho
      have hmin : Nat.min m.length len = min m.length len := rfl
      have hcells := hsrc.cells w rfl (min m.length len) (Nat.min_le_left _ _)
      have htk : (m.map (Value.int kk)).take (min m.length len * 1) = (m.take len).map (Value.int kk) := by
        rw [Nat.mul_one, ← List.map_take, ← List.take_take, List.take_of_length_le (l := m.take len) (by simp; omega)]
      rw [htk] at hcells
      simp only [AV.relV, AV.rel] at hd
      rcases hd with ⟨r, o, hρ, hy, hrm, hcap, hlc⟩ | ⟨hρ, hy, h3, h4⟩
      · injection hy with hy _
        subst hy
        have hex : ∃ w', (storeCells ⟨r, o, none⟩ ((m.take len).map (Value.int kk))).run P w = .ok () w' ∧
            Rep E w0 F n r0 ρ ⟨e, h.set b (some (pre ++ .arr nn kk (l.take off ++ m.take len ++ l.drop (off + min m.length len)) :: post))⟩ a w' := by
          have hq : ∀ cs, relAll (XOf E ρ h) w ρ (.arr nn kk l :: post) cs → (off + ((m.take len).map (Value.int kk)).length ≤ cs.length ∨ ((m.take len).map (Value.int kk)).length = 0) ∧
              relAll (XOf E ρ h) w ρ (.arr nn kk (l.take off ++ m.take len ++ l.drop (off + min m.length len)) :: post) (cs.take off ++ (m.take len).map (Value.int kk) ++ cs.drop (off + ((m.take len).map (Value.int kk)).length)) := by
            intro cs hcs
            simp only [relAll] at hcs
            obtain ⟨ca, cb, rfl, hp1, hp2⟩ := hcs
            simp only [AV.rel] at hp1
            obtain ⟨rfl, rfl⟩ := hp1
            have hl2 : (m.take len).length = min m.length len := by simp [Nat.min_comm]
            have hle : min m.length len ≤ len := Nat.min_le_right _ _
            refine ⟨.inl (by simp; omega), ?_⟩
            refine relAll_mk (a := (l.take off ++ m.take len ++ l.drop (off + min m.length len)).map (Value.int kk)) (b := cb) ?_ ?_ hp2
            · rw [List.take_append_of_le_length (by simp; omega), List.drop_append_of_le_length (by simp; omega)]
              simp
              rw [Nat.min_comm len m.length]
            · simp only [AV.rel]
              exact ⟨trivial, by simp; omega⟩
          rcases hcap with hcap | ⟨rfl, hroom⟩
          · have hl0 : len = 0 := by omega
            subst hl0
            simp only [List.take_zero, List.map_nil] at hq ⊢
            have := write_ok (P := P) (vs := []) (i := off) hr hrow hρ ht hdr (by simp) hq
            obtain ⟨w', hrun, hrep⟩ := this
            have hw : w' = w := by
              simp [storeCells] at hrun
              exact hrun.symm
            subst hw
            exact ⟨w', rfl, hrep⟩
          · exact write_ok (P := P) hr hrow hρ ht hdr flat_ints hq
        obtain ⟨w', hrun, hrep⟩ := hex
        refine ⟨.int .i64 (min m.length len : Nat), w', ?_, ρ, hrep, v_rel rfl⟩
        have hl := hsrc.len w
        rw [List.map_take] at hrun hcells
        simp [Builtin.copy_, run_und hu, hl, sizeOf, typeInfo, hi, hs1, hmin, hcells, hrun, goInt]
      · subst h3 h4
        injection hy with hy _
        subst hy
        have hl := hsrc.len w
        refine ⟨.int .i64 0, w, ?_, ρ, ?_, ?_⟩
        · simp at hcells
          simp [Builtin.copy_, run_und hu, hl, sizeOf, typeInfo, hi, hs1, hcells, goInt]
        · refine virt_write hr (row_some hrow) hρ ?_
          have h1 := hr.hp.blk b ps (row_some hrow)
          rw [hρ] at h1
          have h2 := rowTake_rel h1 ht
          have h3 := rowDrop_rel h1 hdr
          simp only [List.take_nil, List.drop_nil] at h2 h3
          simp only [relAll] at h3
          obtain ⟨ca, cb, he, h4, h5⟩ := h3
          obtain ⟨rfl, rfl⟩ := List.append_eq_nil_iff.1 he.symm
          simp only [AV.rel] at h4
          have hl0 : l = [] := by simpa using h4.1.symm
          subst hl0
          have hn0 : nn = 0 := by simpa using h4.2.symm
          subst hn0
          rw [relAll_append]
          exact ⟨[], [], rfl, h2.1, relAll_mk (a := []) (b := []) rfl (by simp [AV.rel]) h5⟩
        · have h0 : min m.length 0 = 0 := by omega
          rw [h0]; exact v_rel rfl
    · cases ho
  · cases ho
end
end Go.Ax

namespace Go.Ax
section
variable {P : Program} {E : Nat → Prop} {w0 : World} {F : Nat → Prop} {n : Nat} {r0 : List (Option Nat)} {ρ : List (Option Nat)} {e : Env} {h : List Blk} {a : Act} {w : World} {X : Nat → Prop}

theorem listB_ok {t : TypeId} {bytes : Nat} (hb : listB P t = some bytes) :
    ∃ el i z, P.underlying t = some (.slice el) ∧ P.info? el = some i ∧ i.zero = some z ∧ i.size = 1 ∧ z.cells.size = 1 ∧ i.bytes = bytes := by
  unfold listB at hb
  split at hb
  · rename_i el hu
    obtain ⟨i, hi, hb⟩ := Option.bind_eq_some_iff.1 hb
    split at hb
    · rename_i hs
      obtain ⟨z, hz, hb⟩ := Option.bind_eq_some_iff.1 hb
      split at hb
      · rename_i hzs
        cases hb
        exact ⟨el, i, z, hu, hi, hz, hs, hzs, rfl⟩
      · cases hb
    · cases hb
  · cases hb

theorem sizes_all {ps : List AV} (h : ps.all (fun p => p.one) = true) : sizes ps 1 := fun e he => by
  have := List.all_eq_true.1 h e he
  exact ⟨one_size this, fun _ => this⟩

theorem relAll_flat {es : List AV} {vs : List Value} (hr : relAll X w ρ es vs) (hs : sizes es 1) : ∀ u ∈ vs, flat u = true := by
  induction es generalizing vs with
  | nil => simp only [relAll] at hr; subst hr; simp
  | cons p es ih =>
    simp only [relAll] at hr
    obtain ⟨c, d, rfl, h1, h2⟩ := hr
    have hp := hs p (by simp)
    have hl := rel_len _ _ _ h1
    rw [hp.1] at hl
    obtain ⟨u, rfl⟩ := List.length_eq_one_iff.1 hl
    have := rel_flat (hp.2 rfl) h1
    intro v hv
    rcases List.mem_append.1 hv with hv | hv
    · cases List.mem_singleton.1 hv; exact this
    · exact ih h2 (fun e he => hs e (by simp [he])) v hv

theorem src_cells {es : List AV} {vs : List Value} {a : Addr} {cap : Nat} (hr : relAll X w ρ es vs) (hs : sizes es 1) (hc : ∀ j v, vs[j]? = some v → w.cell? (a.add j) = some v) :
    Src P w 1 (.slice (some a) es.length cap) es.length vs := by
  have hlen : vs.length = es.length * 1 := relAll_sizes_len hr hs
  refine ⟨fun w' => rfl, ?_, relAll_flat hr hs, hlen⟩
  intro w' hw n hn
  exact run_firstCells_some (P := P) w' 1 n a es.length cap (vs.take (n * 1)) (by simp; omega) (fun j v hj => by
    rw [cell_heap hw]
    refine hc j v ?_
    rw [List.getElem?_take] at hj
    split at hj
    · exact hj
    · cases hj)

theorem src_nil {sb : Option Addr} : Src P w 1 (.slice sb 0 0) 0 [] := by
  refine ⟨fun w' => rfl, ?_, by simp, by simp⟩
  intro w' _ n hn
  have : n = 0 := by omega
  subst this
  cases sb with
  | none => simp [Builtin.firstCells]
  | some a =>
    have := run_firstCells_some (P := P) w' 1 0 a 0 0 [] (by simp) (by simp)
    simpa using this

theorem relAll_take {es : List AV} {vs : List Value} (hr : relAll X w ρ es vs) (hs : sizes es 1) (k : Nat) : relAll X w ρ (es.take k) (vs.take k) := by
  have h1 := hr
  rw [← List.take_append_drop k es] at h1
  obtain ⟨c, d, h0, h2, h3⟩ := relAll_append.1 h1
  have hl : c.length = (es.take k).length * 1 := relAll_sizes_len h2 (fun e he => hs e (List.mem_of_mem_take he))
  have hlv : vs.length = es.length * 1 := relAll_sizes_len hr hs
  have : vs.take k = c := by
    subst h0
    rcases Nat.le_total k es.length with h | h
    · rw [List.take_append_of_le_length (by simp at hl; omega), List.take_of_length_le (by simp at hl; omega)]
    · have hd : d = [] := by
        simp at hlv hl
        exact List.eq_nil_of_length_eq_zero (by omega)
      subst hd
      rw [List.append_nil, List.take_of_length_le (by simp at hl; omega)]
  rw [this]; exact h2

theorem src_list (hh : HRel X ρ h w) {x : AV} {y : Value} {es : List AV} (hx : AV.relV X w ρ x y) (hl : listOf h x = some es) :
    ∃ vs, relAll X w ρ es vs ∧ sizes es 1 ∧ Src P w 1 y es.length vs ∧ ∃ sb cap, y = .slice sb es.length cap := by
  unfold listOf at hl
  split at hl
  · rename_i es'
    cases hl
    simp only [AV.relV, AV.rel] at hx
    obtain ⟨vs, h1, h2, h3⟩ := hx
    have h1' : relAll X w ρ es vs := relAll_keep Keep.refl (fun _ _ h => h) es [] ρ vs (by simp) h1
    rcases h2 with ⟨a, c, hy, hsp, _, hc, hle⟩ | ⟨h0, a, hy⟩
    · cases hy
      exact ⟨vs, h1', h3, src_cells h1' h3 (hc.cell hsp), _, _, rfl⟩
    · cases hy
      have he : es = [] := List.eq_nil_of_length_eq_zero h0
      subst he
      simp only [relAll] at h1'
      subst h1'
      exact ⟨[], by simp only [relAll], h3, src_nil, _, _, rfl⟩
  · cases hl
    simp only [AV.relV, AV.rel] at hx
    have hx := hx.1
    injection hx with hx _
    subst hx
    exact ⟨[], by simp only [relAll], by simp [sizes], src_nil, _, _, rfl⟩
  · rename_i b len cap
    obtain ⟨ps, hb, hl⟩ := Option.bind_eq_some_iff.1 hl
    obtain ⟨⟨h1, h2⟩, hl⟩ := oguard_some hl
    cases hl
    have hs := sizes_all h1
    have hs' : sizes (ps.take len) 1 := fun e he => hs e (List.mem_of_mem_take he)
    have hlen : (ps.take len).length = len := by simp; omega
    simp only [AV.relV, AV.rel] at hx
    rcases hx with ⟨r, o, hr, hy, hrm, hcap, hlc⟩ | ⟨hr, hy, h3, h4⟩
    · cases hy
      rcases hcap with hcap | ⟨rfl, hroom⟩
      · have : len = 0 := by omega
        subst this hcap
        exact ⟨[], by simp only [List.take_zero, relAll], hs', by simpa using src_nil, some ⟨r, o, none⟩, 0, by simp⟩
      · obtain ⟨cs, hq, hc⟩ := own_cells hh hr hb (base := 0) (qs := ps) (by cases ps <;> rfl)
        have hcl : cs.length = ps.length * 1 := relAll_sizes_len hq hs
        have hcc := hc 0 len (by omega)
        refine ⟨cs.take len, relAll_take hq hs len, hs', ?_, _, _, by rw [hlen]⟩
        have := src_cells (P := P) (cap := cap) (a := ⟨r, 0 + 0, none⟩) (relAll_take hq hs len) hs' (by simpa using hcc.cell rfl)
        rw [hlen] at this ⊢
        exact this
    · cases hy
      subst h3
      subst h4
      exact ⟨[], by simp only [List.take_zero, relAll], hs', by simpa using src_nil, none, 0, by simp⟩
  · cases hl

theorem grownL_left (hr : Rep E w0 F n r0 ρ ⟨e, h⟩ a w) {el : TypeId} {z : Value} {l m : List AV} {vl vm : List Value} {cap need : Nat} (h1 : relAll (XOf E ρ h) w ρ l vl) (s1 : sizes l 1) (h2 : relAll (XOf E ρ h) w ρ m vm) (s2 : sizes m 1)
    (hneed : need = l.length + m.length) (hz : z.cells.size = 1) :
    Left E w0 F n r0 e a (.cap need fun c => (.sl h.length 0 1 0 need c, h ++ [some (l ++ m)]))
      (.slice (some ⟨w.heap.size, 0, none⟩) need (grownCap w need cap el))
      (w.drew.alloc (.cells (vl.toArray ++ vm.toArray ++ Builtin.zeroCells z.cells (grownCap w need cap el - need)) el)) := by
  have hge := grownCap_ge' w need cap el
  have l1 : vl.length = l.length * 1 := relAll_sizes_len h1 s1
  have l2 : vm.length = m.length * 1 := relAll_sizes_len h2 s2
  refine ⟨grownCap w need cap el, _, hge, drew_alloc_left hr (cs := vl ++ vm) (post := (Builtin.zeroCells z.cells (grownCap w need cap el - need)).toList) (by simp) (relAll_append.2 ⟨_, _, rfl, h1, h2⟩), ?_⟩
  refine new_sl hr ?_ hge
  refine ⟨_, _, _, heap_alloc_new w.drew _, ?_⟩
  simp [Builtin.zeroCells, hz]
  omega
theorem virtualL_left (hr : Rep E w0 F n r0 ρ ⟨e, h⟩ a w) : Left E w0 F n r0 e a (.cap 0 fun c => (.sl h.length 0 1 0 0 c, h ++ [some []])) (.slice none 0 0) w := by
  refine ⟨0, ρ ++ [none], by simp, ?_, ?_⟩
  · have ho : ∀ r, own (ρ ++ [none]) (h ++ [some []]) r → own ρ h r := by
      intro r hro
      rcases own_snoc hr.hp hro with h | h
      · exact h
      · cases h
    refine hr.step (ρ' := ρ ++ [none]) Frame.refl (fun _ _ h => get_snoc_old h) (fun r h => .inl (ho r h)) ?_
    have hv := hr.hp.virtual (ps := []) (by simp only [relAll])
    refine ⟨hv.len, fun b ps hb => (hv.blk b ps hb).keep Keep.refl ?_ (fun _ _ h => h) (fun _ _ => rfl), hv.inj⟩
    rintro r _ (h | h)
    · exact .inl h
    · exact .inr (ho r h)
  · simp only [AV.relV, AV.rel]
    right
    have := hr.hp.len
    simp only at this
    rw [← this]; simp
theorem appendL_ok (hr : Rep E w0 F n r0 ρ ⟨e, h⟩ a w) {t xT ty : TypeId} {s x : AV} {ys yx : Value} {out : Out} (hs : AV.relV (XOf E ρ h) w ρ s ys) (hx : AV.relV (XOf E ρ h) w ρ x yx)
    (ho : appendLA P h t xT s x = some out) : ∃ z w', (Builtin.append_ #[t, xT] ty #[ys, yx]).run P w = .ok z w' ∧ Left E w0 F n r0 e a out z w' := by
  unfold appendLA at ho
  split at ho
  · -- a slice of its own
    rename_i bytes _ m l b base sz off len cap hlb hk hm hl
    obtain ⟨el, i, z, hu, hi, hz, hs1, hzs, rfl⟩ := listB_ok hlb
    obtain ⟨q, hxT⟩ := kindT_slice hk
    obtain ⟨⟨h1, h2⟩, ho⟩ := oguard_some ho
    cases ho
    obtain ⟨vm, rm, sm, srcm, _⟩ := src_list (P := P) hr.hp hx hm
    obtain ⟨vl, rl, sl, srcl, sb0, cap0, hy0⟩ := src_list (P := P) hr.hp hs hl
    have hap : Appd P w t xT ty el i z yx m.length vm := appd_src hu (.inl ⟨q, hxT⟩) hi hz (by rw [hs1]; exact srcm)
    have hlen : (h.set b none).length = h.length := by simp
    have hXk : ∀ r, r < w.heap.size → XOf E ρ (h.set b none) r → XOf E ρ h r := by
      rintro r _ (h' | h')
      · exact .inl h'
      · exact .inr (own_kill h')
    have rl' := relAll_keep Keep.refl hXk _ _ ρ _ (fun _ _ h => h) rl
    have rm' := relAll_keep Keep.refl hXk _ _ ρ _ (fun _ _ h => h) rm
    have hll : vl.length = l.length * 1 := relAll_sizes_len rl sl
    have hlm : vm.length = m.length * 1 := relAll_sizes_len rm sm
    subst hy0
    rcases Nat.lt_or_ge cap0 (l.length + m.length) with hg | hg
    · have hrun := hap.new (s := .slice sb0 l.length cap0) rfl (olds := vl) (fun w' hw => by
        have := srcl.cells w' hw l.length (Nat.le_refl _)
        rw [List.take_of_length_le (by omega)] at this
        rw [hs1]; exact this) hg h1 h2
      refine ⟨_, _, hrun, ?_⟩
      have := grownL_left (hr.kill b) (el := el) (z := z) (cap := cap0) rl' sl rm' sm rfl hzs
      simpa [hlen] using this
    · -- there is room
      have hfacts : base = 0 ∧ sz = 1 ∧ off = 0 ∧ ∃ ps, row h b = some ps ∧ ps.all (fun p => p.one) = true ∧ len ≤ ps.length ∧ l = ps.take len := by
        unfold listOf at hl
        split at hl
        · rename_i heq; cases heq
        · rename_i heq; cases heq
        · rename_i b' len' cap' heq
          cases heq
          obtain ⟨ps, hb, hl⟩ := Option.bind_eq_some_iff.1 hl
          obtain ⟨⟨g1, g2⟩, hl⟩ := oguard_some hl
          cases hl
          exact ⟨rfl, rfl, rfl, ps, hb, g1, g2, rfl⟩
        · cases hl
      obtain ⟨rfl, rfl, rfl, ps, hb, g1, g2, hlps⟩ := hfacts
      have hllen : l.length = len := by rw [hlps]; simp; omega
      have hrow' := row_some hb
      have hps := sizes_all g1
      simp only [AV.relV, AV.rel] at hs
      rcases hs with ⟨r, o, hρ, hy, hrm, hcap, hlc⟩ | ⟨hρ, hy, h3, h4⟩
      · injection hy with hy _
        injection hy with hy1 hy2 hy3
        subst hy1 hy3
        have hblk := hr.hp.blk b _ hrow'
        rw [hρ] at hblk
        obtain ⟨c, te, fz, hc, hz', cs, post, hcl, hp⟩ := hblk
        rcases hcap with hcap | ⟨rfl, hroom⟩
        · have hm0 : m = [] := List.eq_nil_of_length_eq_zero (by omega)
          have hl0 : l = [] := List.eq_nil_of_length_eq_zero (by omega)
          subst hm0 hl0 hcap
          simp at hlm
          subst hlm
          have hself : setRow w r c = w := by
            have h1 : (setRow w r c).heap = w.heap := by
              apply Array.ext_getElem?
              intro i
              by_cases h : i = r
              · subst h; rw [setRow_same hc, hc]
              · exact setRow_other w r c i h
            have h2 : setRow w r c = { w with heap := (setRow w r c).heap } := rfl
            rw [h2, h1]
          refine ⟨.slice (some ⟨r, o, none⟩) 0 0, setRow w r c, ?_, 0, _, Nat.le_refl _, hr.alias hrow' hρ hc rfl hz' (cs := []) (qs := []) (post := c.toList) (by simp) (by simp [relAll]), ?_⟩
          · rw [hself]
            exact hap.room rfl (by simp) rfl
          · simp only [AV.relV, AV.rel]
            obtain ⟨c3, te3, fz3, hc3, ho3⟩ := hrm
            rw [hc] at hc3
            cases hc3
            exact .inl ⟨r, o, last_id hr r, rfl, ⟨c, te, fz, setRow_same hc, ho3⟩, by simp, by simp⟩
        · obtain ⟨c2, te2, fz2, hc2, hcs2⟩ := hroom
          rw [hc] at hc2
          cases hc2
          have hpl : cs.length = ps.length * 1 := relAll_sizes_len hp hps
          have hrt := relAll_take hp hps len
          rw [← hlps] at hrt
          have hsz : c.size = cs.length + post.length := by rw [← Array.length_toList, hcl]; simp
          obtain ⟨c', hst, hc'⟩ := store_run (P := P) (r := r) vm len 0 c w hc (by simp at hcs2 ⊢; omega) hz' hap.flat
          simp only [Nat.add_zero] at hc'
          refine ⟨.slice (some ⟨r, 0, none⟩) (l.length + m.length) cap0, setRow w r c', hap.room rfl hg (by simpa [hs1, addr_add, hllen] using hst), cap0, ρ ++ [some r], hg, ?_, ?_⟩
          · refine hr.alias hrow' hρ hc ?_ hz' (cs := cs.take len ++ vm) (post := c.toList.drop (len + vm.length)) ?_ (relAll_append.2 ⟨_, _, rfl, hrt, rm⟩)
            · rw [← Array.length_toList, hc']; simp at hcs2 ⊢; omega
            · rw [hc', hcl, List.take_append_of_le_length (by omega)]
          · exact new_sl hr ⟨c', te, fz, setRow_same hc, by rw [← Array.length_toList, hc']; simp at hcs2 ⊢; omega⟩ hg
      · injection hy with hy _
        injection hy with hy1 hy2 hy3
        subst hy1 h4
        have hm0 : m = [] := List.eq_nil_of_length_eq_zero (by omega)
        have hl0 : l = [] := List.eq_nil_of_length_eq_zero (by omega)
        subst hm0 hl0
        have := virtualL_left (hr.kill b)
        refine ⟨.slice none 0 0, w, ?_, ?_⟩
        · have := hap.none rfl
          simpa [hy3] using this
        · simpa [hlen] using this
  · -- nil
    rename_i bytes _ m l hlb hk hm hl
    obtain ⟨el, i, z, hu, hi, hz, hs1, hzs, rfl⟩ := listB_ok hlb
    obtain ⟨q, hxT⟩ := kindT_slice hk
    obtain ⟨⟨h1, h2⟩, ho⟩ := oguard_some ho
    cases ho
    obtain ⟨vm, rm, sm, srcm, _⟩ := src_list (P := P) hr.hp hx hm
    have hap : Appd P w t xT ty el i z yx m.length vm := appd_src hu (.inl ⟨q, hxT⟩) hi hz (by rw [hs1]; exact srcm)
    simp only [AV.relV, AV.rel] at hs
    have hs := hs.1
    injection hs with hs _
    subst hs
    rcases Nat.eq_zero_or_pos m.length with h0 | h0
    · have hm0 : m = [] := List.eq_nil_of_length_eq_zero h0
      subst hm0
      exact ⟨.slice none 0 0, w, hap.none rfl, virtualL_left hr⟩
    · have hrun := hap.new (s := .slice none 0 0) (olds := []) rfl (fun w' _ => by simp [Builtin.firstCells]) (by omega) (by rw [Nat.zero_add]; exact h1) (by omega)
      simp only [Nat.zero_add] at hrun
      refine ⟨_, _, hrun, ?_⟩
      have := grownL_left hr (el := el) (z := z) (cap := 0) (l := []) (vl := []) (need := m.length) (by simp only [relAll]) (by simp [sizes]) rm sm (by simp) hzs
      simpa using this
  · cases ho
end
end Go.Ax

namespace Go.Ax
section
variable {h : List Blk} {e : Env}
theorem row_ext {ext : List Blk} {b : Nat} {ps : List AV} (h1 : row h b = some ps) : row (h ++ ext) b = some ps := by
  have := row_some h1
  have hl := (List.getElem?_eq_some_iff.1 this).1
  unfold row
  rw [List.getElem?_append_left hl, this]

theorem bind_ext {ext : List Blk} {b : Nat} {f : List AV → Option AV} {x : AV} (h1 : (row h b).bind f = some x) : (row (h ++ ext) b).bind f = some x := by
  obtain ⟨ps, h2, h3⟩ := Option.bind_eq_some_iff.1 h1
  rw [row_ext h2]; exact h3

theorem intsOf_ext {ext : List Blk} {x : AV} {r : IntKind × List Int} (h1 : intsOf h x = some r) : intsOf (h ++ ext) x = some r := by
  unfold intsOf at *
  split at h1
  · split at h1
    · rename_i hs
      rw [if_pos hs]
      obtain ⟨ps, h2, h3⟩ := Option.bind_eq_some_iff.1 h1
      rw [row_ext h2]; exact h3
    · cases h1
  all_goals first | exact h1 | cases h1

theorem stepR_ext {P : Program} {ext : List Blk} {op : Op} {x : AV} (h1 : stepR P h e op = some x) : stepR P (h ++ ext) e op = some x := by
  cases op <;> simp only [stepR] at h1 ⊢ <;> first
    | exact h1
    | skip
  case load t a =>
    unfold loadA at *
    split at h1
    · unfold loadCell at *
      split at h1
      · exact bind_ext h1
      · exact h1
      · cases h1
    · unfold loadAgg at *
      split at h1
      · exact bind_ext h1
      · exact h1
      · cases h1
    · cases h1
  case convert src dst y =>
    unfold convA at *
    split at h1
    · exact h1
    · exact h1
    · split at h1
      · obtain ⟨r, h2, h3⟩ := Option.bind_eq_some_iff.1 h1
        rw [intsOf_ext h2]; exact h3
      · cases h1
  case slice t y lo hi mx =>
    unfold sliceA at *
    split at h1
    · exact h1
    · exact bind_ext h1
    · exact h1
    · exact h1
    · exact h1
    · cases h1


def roOp (ro : List Nat) : Op → Bool
  | .load _ (.tmp a) => ro.contains a
  | _ => false
def hpR (ro : List Nat) (op : Op) (h : List Blk) : List Blk := if roOp ro op = true then [] else h
def stepH (P : Program) (ro : List Nat) (h : List Blk) (e : Env) (op : Op) : Option AV := stepR P (hpR ro op h) e op
theorem stepH_up {P : Program} {ro : List Nat} {op : Op} {x : AV} (h1 : stepH P ro h e op = some x) : stepR P h e op = some x := by
  unfold stepH hpR at h1
  split at h1
  · have := stepR_ext (ext := h) h1; simpa using this
  · exact h1
theorem stepH_ext {P : Program} {ro : List Nat} {ext : List Blk} {op : Op} {x : AV} (h1 : stepH P ro h e op = some x) : stepH P ro (h ++ ext) e op = some x := by
  unfold stepH hpR at h1 ⊢
  split at h1
  · rename_i hr; rw [if_pos hr]; exact h1
  · rename_i hr; rw [if_neg hr]; exact stepR_ext h1
theorem stepH_ro {P : Program} {ro : List Nat} {h' : List Blk} {op : Op} (hr : roOp ro op = true) : stepH P ro h' e op = stepH P ro h e op := by
  unfold stepH hpR; rw [if_pos hr, if_pos hr]
theorem stepH_no {P : Program} {ro : List Nat} {op : Op} (hr : roOp ro op = false) : stepH P ro h e op = stepR P h e op := by
  unfold stepH hpR; rw [if_neg (by rw [hr]; simp)]
end
end Go.Ax

namespace Go.Ax

def hasBody (P : Program) (f : FuncId) : Bool := (P.funcs[f]?).any fun fn => fn.body.isSome && fn.name != "runtime.NumGoroutine"

def ACall (P : Program) (f : FuncId) (args : List AV) (h : List Blk) (κ : AV → List Blk → Prop) : Prop :=
  hasBody P f = true ∧ ∀ (E : Nat → Prop) (w : World) (ρ : List (Option Nat)) (vs : Array Value),
    relVs (XOf E ρ h) w ρ args vs.toList → HRel (XOf E ρ h) ρ h w → (∀ r, E r → r < w.heap.size ∧ ¬ own ρ h r) →
    Calls P f vs w fun en w' => ∃ av v ρ' h', en = .returned v ∧ κ av h' ∧ AV.relV (XOf E ρ' h') w' ρ' av v ∧ HRel (XOf E ρ' h') ρ' h' w' ∧
      (∀ (b : Nat) o, ρ[b]? = some o → ρ'[b]? = some o) ∧ (∀ r, own ρ' h' r → own ρ h r ∨ w.heap.size ≤ r) ∧ Frame (own ρ h) w w'

theorem ACall.mono {P : Program} {f : FuncId} {args : List AV} {h : List Blk} {κ κ' : AV → List Blk → Prop} (hc : ACall P f args h κ) (hk : ∀ v h', κ v h' → κ' v h') : ACall P f args h κ' := by
  refine ⟨hc.1, fun E w ρ vs h1 h2 h3 => (hc.2 E w ρ vs h1 h2 h3).mono ?_⟩
  rintro en w' ⟨av, v, ρ', h', h4, h5, h6⟩
  exact ⟨av, v, ρ', h', h4, hk _ _ h5, h6⟩

structure Cfg where
  P : Program
  /-- how many blocks there are when the function begins -/
  k : Nat
  /-- functions of values alone -/
  pure : FuncId → Option (List AV → Option AV)
  /-- regions whose order matters to what can be shown: they are gone through by a plan -/
  odd : List Nat := []
  /-- functions that only make new blocks -/
  news : FuncId → Option (List Blk → List AV → Option Out) := fun _ => none
  /-- the round of a loop over a function that the code runs in -/
  rd : Option Nat := none
  /-- slots that lead to what is only read -/
  ro : List Nat := []

def Cfg.Good (C : Cfg) : Prop := C.P.follows .mixedOrders = true ∧ (∀ f F args v, C.pure f = some F → F args = some v → ∀ h κ, κ v h → ACall C.P f args h κ) ∧
  ∀ f N h args out, C.news f = some N → N h args = some out → (out.all fun _ h' => ∃ ext, h' = h ++ ext) ∧ ∀ κ, out.all κ → ACall C.P f args h κ

def holds {α : Type} (x : Option α) (κ : α → Prop) : Prop := ∃ v, x = some v ∧ κ v

def nilCmp (P : Program) (e : Env) : Op → Option (Nat × Bool)
  | .binOp .eql t x y _ => match kindT P t, lenA (ev e x), ev e y with
    | .slice _, some n, .v (.slice none 0 0) => some (n, true)
    | _, _, _ => none
  | .binOp .neq t x y _ => match kindT P t, lenA (ev e x), ev e y with
    | .slice _, some n, .v (.slice none 0 0) => some (n, false)
    | _, _, _ => none
  | _ => none

inductive Cls where
  | read | eff | nil | call | no
  deriving DecidableEq

def clsT (P : Program) : Op → Cls
  | .binOp .eql t _ _ _ => match kindT P t with | .slice _ => .nil | _ => .read
  | .binOp .neq t _ _ _ => match kindT P t with | .slice _ => .nil | _ => .read
  | .convert src dst _ => match kindT P src, kindT P dst with | .string, .slice _ => .eff | .slice _, .slice _ => .eff | _, _ => .read
  | .alloc _ | .box .. | .store .. | .makeSlice .. | .buildSlice .. => .eff
  | .call c => match c.callee with
    | .builtin .append | .builtin .copy => .eff
    | .builtin _ => .read
    | .value _ => .call
    | _ => .no
  | _ => .read

def callArgs (e : Env) (c : Call) : Option (FuncId × List AV) :=
  match c.callee with
  | .value f => match ev e f with
    | .fn (.func g) first caps => some (g, first ++ c.args.toList.map (ev e) ++ caps)
    | _ => none
  | _ => none

def callStep (C : Cfg) (f : FuncId) (args : List AV) (h : List Blk) (κ : AV → List Blk → Prop) : Prop :=
  match C.pure f with
  | some F => holds (F args) fun v => κ v h
  | none => match C.news f with
    | some N => holds (N h args) fun out => out.all κ
    | none => ACall C.P f args h κ

def step1 (C : Cfg) (o : Oper) (σ : St) (κ : St → Prop) : Prop :=
  match clsT C.P o.op with
  | .read => holds (stepH C.P C.ro σ.h σ.e o.op) fun v => κ ⟨put σ.e o.dst v, σ.h⟩
  | .eff => holds (effO C.P σ.h σ.e o.op) fun out => out.all fun v h' => κ ⟨put σ.e o.dst v, h'⟩
  | .nil => holds (nilCmp C.P σ.e o.op) fun (n, q) => ∀ t : Bool, (t = q → n = 0) → κ ⟨put σ.e o.dst (.v (.bool t)), σ.h⟩
  | .call => match o.op with
    | .call c => holds (callArgs σ.e c) fun (f, args) => callStep C f args σ.h fun v h' => κ ⟨put σ.e o.dst v, h'⟩
    | _ => False
  | .no => False

def wantA (ops : Array Oper) (σ : St) (o : Oper) (yes no : Prop) : Prop :=
  match o.guard with
  | none => yes
  | some (j, want) =>
    match (ops[j]?).bind (·.dst) with
    | some t => match get σ.e t with
      | .v (.bool b) => if b = want then yes else no
      | .tup [] => no
      | _ => False
    | none => no

def execOps (C : Cfg) (ops : Array Oper) : List Oper → St → (St → Prop) → Prop
  | [], σ, κ => κ σ
  | o :: rest, σ, κ => wantA ops σ o (step1 C o σ fun σ' => execOps C ops rest σ' κ) (execOps C ops rest ⟨put σ.e o.dst (.tup []), σ.h⟩ κ)

def Code.dstOk (n : Nat) : Code → Bool
  | .region _ ops _ => ops.toList.all fun o => o.dst.all (· < n)
  | .seq a b => Code.dstOk n a && Code.dstOk n b
  | .cond _ a b => Code.dstOk n a && Code.dstOk n b
  | .block _ a => Code.dstOk n a
  | .loop a => Code.dstOk n a
  | .scope a => Code.dstOk n a
  | .rangeFunc _ ps a b => ps.toList.all (· < n) && (Code.dstOk n a && Code.dstOk n b)
  | _ => true

section
variable {C : Cfg} {E : Nat → Prop} {w0 : World} {F : Nat → Prop} {n : Nat} {r0 : List (Option Nat)}

def Ok (E : Nat → Prop) (w0 : World) (F : Nat → Prop) (n : Nat) (r0 : List (Option Nat)) (σ : St) (a : Act) (w : World) : Prop := ∃ ρ, Rep E w0 F n r0 ρ σ a w

theorem put_cap {ρ : List (Option Nat)} {e : Env} {h : List Blk} {a : Act} {w : World} {d : Option Nat} {v : AV} {z : Value} (hr : Rep E w0 F n r0 ρ ⟨e, h⟩ a w) (hd : ∀ t, d = some t → t < n)
    (hv : AV.relV (XOf E ρ h) w ρ v z) : Ok E w0 F n r0 ⟨put e d v, h⟩ (a.put d z) w := ⟨ρ, hr.put hd hv⟩

theorem value_wp {P : Program} {o : Oper} {a : Act} {w w' : World} {z : Value} {K : Act → World → Prop} {Q : Exit → Act → World → Prop} (h : (execOp a.eval o).run P w = .ok (.value z) w') (hk : K (a.put o.dst z) w') : o.wp P a w K Q := by
  unfold Oper.wp; rw [h]; exact hk

theorem skip_wp {P : Program} {o : Oper} {a : Act} {w w' : World} {K : Act → World → Prop} {Q : Exit → Act → World → Prop} (h : (execOp a.eval o).run P w = .ok .skip w') (hk : K (a.put o.dst undef) w') : o.wp P a w K Q := by
  unfold Oper.wp; rw [h]; exact hk

theorem left_ok {e : Env} {a : Act} {out : Out} {z : Value} {w' : World} {d : Option Nat} {κ : St → Prop} (hl : Left E w0 F n r0 e a out z w') (hd : ∀ t, d = some t → t < n)
    (ha : out.all fun v h' => κ ⟨put e d v, h'⟩) : ∃ σ', κ σ' ∧ Ok E w0 F n r0 σ' (a.put d z) w' := by
  cases out with
  | one v h' => obtain ⟨ρ', hr, hv⟩ := hl; exact ⟨_, ha, put_cap hr hd hv⟩
  | cap need f => obtain ⟨c, ρ', hc, hr, hv⟩ := hl; exact ⟨_, ha c hc, put_cap hr hd hv⟩

theorem relVs_app {X : Nat → Prop} {w : World} {ρ : List (Option Nat)} : ∀ {xs ys : List AV} {vs us : List Value}, relVs X w ρ xs vs → relVs X w ρ ys us → relVs X w ρ (xs ++ ys) (vs ++ us)
  | [], ys, vs, us, h, k => by simp only [relVs] at h; subst h; simpa using k
  | x :: xs, ys, vs, us, h, k => by
    simp only [relVs] at h
    obtain ⟨a, b, rfl, h1, h2⟩ := h
    simp only [List.cons_append, relVs]
    exact ⟨a, b ++ us, rfl, h1, relVs_app h2 k⟩

theorem eff_ok {σ : St} {a : Act} {w : World} {o : Oper} {out : Out} {ρ : List (Option Nat)} (hr : Rep E w0 F n r0 ρ σ a w) (hs : effO C.P σ.h σ.e o.op = some out) :
    ∃ z w', ((execOp a.eval o).run C.P w = .ok (.value z) w' ∨ (execOp a.eval o).run C.P w = .ok .skip w' ∧ z = undef) ∧ Left E w0 F n r0 σ.e a out z w' := by
  obtain ⟨dst, op, ty, pos, after, guard⟩ := o
  simp only at hs
  have he := fun x => hr.ev x
  obtain ⟨e, h⟩ := σ
  simp only at hs he
  unfold effO at hs
  have fin : ∀ {s : Sem Value}, (∃ z w', s.run C.P w = .ok z w' ∧ Left E w0 F n r0 e a out z w') → execOp a.eval ⟨dst, op, ty, pos, after, guard⟩ = (do pure (.value (← s))) →
      ∃ z w', ((execOp a.eval ⟨dst, op, ty, pos, after, guard⟩).run C.P w = .ok (.value z) w' ∨ (execOp a.eval ⟨dst, op, ty, pos, after, guard⟩).run C.P w = .ok .skip w' ∧ z = undef) ∧ Left E w0 F n r0 e a out z w' := by
    rintro s ⟨z, w', hz, hv⟩ heq
    exact ⟨z, w', .inl (by rw [heq]; simp [hz]), hv⟩
  split at hs
  · obtain ⟨ps, hp, rfl⟩ := Option.map_eq_some_iff.1 hs
    exact fin (alloc_ok hr hp) rfl
  · obtain ⟨ps, hp, rfl⟩ := Option.map_eq_some_iff.1 hs
    exact fin (box_ok hr (he _) hp) rfl
  · obtain ⟨h', hp, rfl⟩ := Option.map_eq_some_iff.1 hs
    obtain ⟨w', hrun, hrep⟩ := store_ok (P := C.P) hr (he _) (he _) hp
    refine ⟨undef, w', .inr ⟨?_, rfl⟩, ρ, hrep, ?_⟩
    · simp [execOp, hrun]
    · simp only [AV.relV]; exact ⟨#[], rfl, by simp [relVs]⟩
  · exact fin (makeSlice_ok hr (he _) (he _) hs) rfl
  · exact fin (buildSlice_ok hr he hs) rfl
  · rcases Option.or_eq_some_iff.1 hs with hs | ⟨_, hs⟩
    · exact fin (strBytes_ok hr (he _) hs) rfl
    · exact fin (mark_ok hr (he _) hs) rfl
  · rename_i c
    obtain ⟨callee, args, tys⟩ := c
    simp only at hs
    split at hs
    · rename_i s x t xT h2 h3
      obtain rfl : args = #[s, x] := by apply Array.ext'; simpa using h2
      obtain rfl : tys = #[t, xT] := by apply Array.ext'; simpa using h3
      have hrun : ∃ z w', (Builtin.append_ #[t, xT] ty #[a.eval s, a.eval x]).run C.P w = .ok z w' ∧ Left E w0 F n r0 e a out z w' := by
        rcases Option.or_eq_some_iff.1 hs with hs | ⟨_, hs⟩
        · rcases Option.or_eq_some_iff.1 hs with hs | ⟨_, hs⟩
          · exact append_ok hr (he _) (he _) hs
          · exact appendKeep_ok hr (he _) (he _) hs
        · exact appendL_ok hr (he _) (he _) hs
      obtain ⟨z, w', hz, hl⟩ := hrun
      exact ⟨z, w', .inl (by simp [execOp, resolve, invoke, builtin, hz]), hl⟩
    · rename_i d x t xT h2 h3
      obtain rfl : args = #[d, x] := by apply Array.ext'; simpa using h2
      obtain rfl : tys = #[t, xT] := by apply Array.ext'; simpa using h3
      obtain ⟨z, w', hz, hl⟩ := copy_ok (ty := ty) (xT := xT) hr (he _) (he _) hs
      exact ⟨z, w', .inl (by simp [execOp, resolve, invoke, builtin, hz]), hl⟩
    · cases hs
  · cases hs

theorem nil_ok {σ : St} {a : Act} {w : World} {o : Oper} {m : Nat} {q : Bool} {ρ : List (Option Nat)} (hr : Rep E w0 F n r0 ρ σ a w) (hs : nilCmp C.P σ.e o.op = some (m, q)) :
    ∃ t : Bool, (t = q → m = 0) ∧ (execOp a.eval o).run C.P w = .ok (.value (.bool t)) w := by
  obtain ⟨dst, op, ty, pos, after, guard⟩ := o
  simp only at hs
  have key : ∀ (t : TypeId) (x y : Operand) (n' : Nat) (b : Bool), kindT C.P t = .slice b → lenA (ev σ.e x) = some n' → ev σ.e y = .v (.slice none 0 0) →
      ∃ r : Bool, (r = true → n' = 0) ∧ (binOp .eql t (a.eval x) (a.eval y)).run C.P w = .ok (.bool r) w ∧ (binOp .neq t (a.eval x) (a.eval y)).run C.P w = .ok (.bool (!r)) w ∧
        (∀ op, (eqGuard op t x y (a.eval x) (a.eval y)).run C.P w = .ok () w) := by
    intro t x y n' b hk hl hy
    obtain ⟨el, hu⟩ := kindT_slice hk
    have h1 := hr.ev x
    have h2 := hr.ev y
    rw [hy] at h2
    simp only [AV.relV, AV.rel] at h2
    have h2 := h2.1
    injection h2 with h2 _
    obtain ⟨sa, sc, h3⟩ := lenA_ok h1 hl
    have hE : (Op.equal t (a.eval x) (a.eval y)).run C.P w = .ok sa.isNone w := by
      rw [h3, h2]
      refine run_equal_of fun d => ?_
      simp only [Op.equalIn, Sem.run_bind, run_und hu, Result.andThen_ok]
      cases sa <;> rfl
    have h4 := run_eql hE (by rw [h3]; simp) (by rw [h3]; simp) (by rw [h3]; simp) (by rw [h3]; simp)
    refine ⟨sa.isNone, ?_, h4.1, h4.2, fun op => ?_⟩
    · intro hn
      cases sa with
      | some _ => simp at hn
      | none =>
        unfold lenA at hl
        split at hl
        · rename_i heq
          rw [heq] at h1
          simp only [AV.relV, AV.rel] at h1
          rcases h1 with ⟨r, o, _, h1, _⟩ | ⟨_, _, h1, _⟩
          · rw [h3] at h1; simp at h1
          · cases hl; exact h1
        · rename_i heq
          rw [heq] at h1
          simp only [AV.relV, AV.rel, roAt] at h1
          rcases h1 with ⟨r, o, h1, _⟩ | ⟨h1, _⟩
          · rw [h3] at h1; simp at h1
          · cases hl; exact h1
        · rename_i heq
          rw [heq] at h1
          simp only [AV.relV, AV.rel, roAt] at h1
          obtain ⟨vs, _, h1, _⟩ := h1
          rcases h1 with ⟨r, o, h1, _⟩ | ⟨h1, _⟩
          · rw [h3] at h1; simp at h1
          · cases hl; exact h1
        · cases hl; rfl
        · cases hl
    · rw [h3]; exact eqGuard_ok rfl (by simp)
  unfold nilCmp at hs
  split at hs
  · split at hs
    · rename_i hk hl hy
      cases hs
      obtain ⟨r, h1, h2, h3, h4⟩ := key _ _ _ _ _ hk hl hy
      exact ⟨r, h1, by simp [execOp, h4, h2]⟩
    · cases hs
  · split at hs
    · rename_i hk hl hy
      cases hs
      obtain ⟨r, h1, h2, h3, h4⟩ := key _ _ _ _ _ hk hl hy
      exact ⟨!r, fun h => h1 (by simpa using h), by simp [execOp, h4, h3]⟩
    · cases hs
  · cases hs

theorem call_run {P : Program} {f : FuncId} {args : Array Value} {w : World} (h : hasBody P f = true) : (callFunc f args).run P w = .ok (.enter f args) w := by
  unfold hasBody at h
  simp only [callFunc, Sem.run_bind, run_program, Result.andThen_ok]
  cases hf : P.funcs[f]? with
  | none => rw [hf] at h; simp at h
  | some fn =>
    rw [hf] at h
    simp only [Option.any_some, Bool.and_eq_true, bne_iff_ne, ne_eq] at h
    have h2 : (fn.name == "runtime.NumGoroutine") = false := by simpa using h.2
    have h3 : fn.body.isNone = false := by cases hb : fn.body <;> simp_all
    simp [h2, h3]

theorem acall_ok {σ : St} {a : Act} {w : World} {f : FuncId} {args : List AV} {vs : Array Value} {κ : AV → List Blk → Prop} {ρ : List (Option Nat)} (hr : Rep E w0 F n r0 ρ σ a w)
    (hv : relVs (XOf E ρ σ.h) w ρ args vs.toList) (hc : ACall C.P f args σ.h κ) :
    Calls C.P f vs w fun en w' => ∃ av v ρ' h', en = .returned v ∧ κ av h' ∧ Rep E w0 F n r0 ρ' ⟨σ.e, h'⟩ a w' ∧ AV.relV (XOf E ρ' h') w' ρ' av v := by
  refine (hc.2 E w ρ vs hv hr.hp (fun r h => ⟨Nat.lt_of_lt_of_le (hr.el r h).1 hr.fr.size, (hr.el r h).2⟩)).mono ?_
  rintro en w' ⟨av, v, ρ', h', h1, h2, h3, h4, h5, h6, h7⟩
  exact ⟨av, v, ρ', h', h1, h2, hr.step h7 h5 h6 h4, h3⟩

theorem step1_ok (hC : C.Good) {σ : St} {a : Act} {w : World} {o : Oper} {κ : St → Prop} {K : Act → World → Prop} {Q : Exit → Act → World → Prop} (hr : Ok E w0 F n r0 σ a w) (hd : ∀ t, o.dst = some t → t < n)
    (hs : step1 C o σ κ) (hK : ∀ σ' a' w', κ σ' → Ok E w0 F n r0 σ' a' w' → K a' w') : o.wp C.P a w K Q := by
  obtain ⟨ρ, hr⟩ := hr
  unfold step1 at hs
  split at hs
  · obtain ⟨v, hv, hk⟩ := hs
    obtain ⟨z, hz, hrel⟩ := stepR_ok (o := o) hr.hp (fun x => hr.ev x) (stepH_up hv)
    exact value_wp hz (hK _ _ _ hk (put_cap hr hd hrel))
  · obtain ⟨out, ho, hk⟩ := hs
    obtain ⟨z, w', hz, hl⟩ := eff_ok hr ho
    obtain ⟨σ', h1, h2⟩ := left_ok hl hd hk
    rcases hz with hz | ⟨hz, rfl⟩
    · exact value_wp hz (hK _ _ _ h1 h2)
    · exact skip_wp hz (hK _ _ _ h1 h2)
  · obtain ⟨⟨m, q⟩, ho, hk⟩ := hs
    obtain ⟨t, h1, h2⟩ := nil_ok hr ho
    exact value_wp h2 (hK _ _ _ (hk t h1) (put_cap hr hd (v_rel rfl)))
  · split at hs
    · rename_i c hop
      obtain ⟨⟨f, args⟩, hca, hk⟩ := hs
      simp only at hk
      unfold callArgs at hca
      split at hca
      · rename_i fo hcal
        split at hca
        · rename_i g first caps hev
          cases hca
          have hfv := hr.ev fo
          rw [hev] at hfv
          simp only [AV.relV, AV.rel] at hfv
          obtain ⟨f1, c1, hfe, hf1, hc1⟩ := hfv
          injection hfe with hfe _
          have hargs : relVs (XOf E ρ σ.h) w ρ (first ++ c.args.toList.map (ev σ.e) ++ caps) (f1 ++ c.args.map a.eval ++ c1).toList := by
            simp only [Array.toList_append, Array.toList_map]
            exact relVs_app (relVs_app hf1 (relVs_map (fun x => hr.ev x) _)) hc1
          have hA : ACall C.P f (first ++ c.args.toList.map (ev σ.e) ++ caps) σ.h fun v h' => κ ⟨put σ.e o.dst v, h'⟩ := by
            unfold callStep at hk
            split at hk
            · rename_i F hF
              obtain ⟨v, hv, hk⟩ := hk
              exact hC.2.1 f F _ v hF hv _ _ hk
            · split at hk
              · rename_i N hN
                obtain ⟨out, ho, hk⟩ := hk
                exact (hC.2.2 f N _ _ out hN ho).2 _ hk
              · exact hk
          have hrun : (execOp a.eval o).run C.P w = .ok (.enter f (f1 ++ c.args.map a.eval ++ c1)) w := by
            obtain ⟨dst, op, ty, pos, after, guard⟩ := o
            simp only at hop
            subst hop
            simp only [execOp, resolve, hcal, hfe, Deferred.ofValue, Sem.run_bind, Sem.run_pure, Result.andThen_ok, invoke]
            exact call_run hA.1
          unfold Oper.wp
          rw [hrun]
          refine (acall_ok hr hargs hA).mono ?_
          rintro en w' ⟨av, v, ρ', h', rfl, h2, h3, h4⟩
          exact hK _ _ _ h2 (put_cap h3 hd h4)
        · cases hca
      · cases hca
    · exact hs.elim
  · exact hs.elim
end
end Go.Ax
