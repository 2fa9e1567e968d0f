/- The abstract values of the executor, and what they say of memory: no condition. -/
import Derived.WalkKit
import Derived.Orders
namespace Go.Sx
open Go

/-- What a cell holds. -/
inductive TV where
  | int (k : IntKind) (n : Int)
  | bool (b : Bool)
  | str (s : List UInt8)
  | sc (v : Value)
  | fz (z n : Nat) (f : Nat → List TV)
  | own (z : Nat) (e : TypeId) (n : Nat) (f : Nat → List TV)
  | hole

inductive Root where
  | slot (k j : Nat)
  | cell (o off : Nat)
  | obj (o : Nat)
  deriving DecidableEq

abbrev Steps := List (Nat × Nat)
abbrev Path := Root × Steps

/-- What a slot holds. -/
inductive SV where
  | junk
  | tv (x : TV)
  | agg (cs : List TV)
  | tup (vs : List SV)
  | pc (o off : Nat)
  | pe (p : Path) (i j z : Nat)
  | rp (cs : List TV)
  | al (p : Path)
  | fn (f : FuncId) (caps : List SV)

structure Gh where
  ow : Nat → Option Path
  P : Nat → Prop
  m : Nat → Nat

/-- A block of cells that may be written. -/
def Row (w : World) (b : Nat) (e : TypeId) (c : Array Value) : Prop :=
  ∃ fr : Nat × Nat, w.heap[b]? = some (.cells c e fr) ∧ ∀ i, i < c.size → ¬ (fr.1 ≤ i ∧ i < fr.2)

theorem Row.of {w : World} {b : Nat} {e : TypeId} {c : Array Value} (h : w.heap[b]? = some (.cells c e (0, 0))) : Row w b e c :=
  ⟨(0, 0), h, fun _ _ h => by simp at h⟩

theorem Row.eq {w w' : World} {b : Nat} {e : TypeId} {c : Array Value} (h : Row w b e c) (hb : w'.heap[b]? = w.heap[b]?) : Row w' b e c := by
  obtain ⟨fr, h1, h2⟩ := h
  exact ⟨fr, hb.trans h1, h2⟩

theorem Row.cell {w : World} {b : Nat} {e : TypeId} {c : Array Value} (h : Row w b e c) (j : Nat) : w.cell? ⟨b, j, none⟩ = c[j]? := by
  obtain ⟨fr, h1, _⟩ := h
  exact cell_of_row w b j c e fr h1

theorem Row.lt {w : World} {b : Nat} {e : TypeId} {c : Array Value} (h : Row w b e c) : b < w.heap.size := by
  obtain ⟨fr, h1, _⟩ := h
  exact (Array.getElem?_eq_some_iff.1 h1).1

/-- Frozen: what a value reads as in memory that nobody writes. -/
inductive FRel (P : Nat → Prop) (w : World) : Value → TV → Prop
  | int (k n) : FRel P w (.int k n) (.int k n)
  | bool (b) : FRel P w (.bool b) (.bool b)
  | str (s : List UInt8) : FRel P w (.string ⟨s.toArray⟩) (.str s)
  | sc (v) : v.oneCell' = true → FRel P w v (.sc v)
  | nil (A : Option Addr) (c z : Nat) (f : Nat → List TV) : FRel P w (.slice A 0 c) (.fz z 0 f)
  | row (b off cap z n : Nat) (f : Nat → List TV) (cs : Nat → Nat → Value) :
      P b → n ≤ cap → cap ≤ maxLen → (∀ i, i < n → (f i).length = z) →
      (∀ i j y, i < n → (f i)[j]? = some y → w.cell? ⟨b, off + i * z + j, none⟩ = some (cs i j)) →
      (∀ i j y, i < n → (f i)[j]? = some y → FRel P w (cs i j) y) →
      FRel P w (.slice (some ⟨b, off, none⟩) n cap) (.fz z n f)

/-- What a value reads as; 'own' is in a block that this place alone has. -/
inductive TRel (g : Gh) (w : World) : Path → Value → TV → Prop
  | fr {p v x} : FRel g.P w v x → TRel g w p v x
  | hole {p v} : TRel g w p v .hole
  | nil {p} (z e f) : TRel g w p (.slice none 0 0) (.own z e 0 f)
  | own {p} (b cap z : Nat) (e : TypeId) (n : Nat) (f : Nat → List TV) (c : Array Value) (cs : Nat → Nat → Value) :
      g.ow b = some p → Row w b e c → c.size = cap * z → n ≤ cap → cap ≤ maxLen →
      (∀ i, i < n → (f i).length = z) →
      (∀ i j y, i < n → (f i)[j]? = some y → c[i * z + j]? = some (cs i j)) →
      (∀ i j y, i < n → (f i)[j]? = some y → TRel g w (p.1, (i, j) :: p.2) (cs i j) y) →
      TRel g w p (.slice (some ⟨b, 0, none⟩) n cap) (.own z e n f)

theorem FRel.mono {P P' : Nat → Prop} {w w' : World} {v : Value} {x : TV} (h : FRel P w v x)
    (hP : ∀ b, P b → P' b ∧ w'.heap[b]? = w.heap[b]?) : FRel P' w' v x := by
  induction h with
  | int k n => exact .int k n
  | bool b => exact .bool b
  | str s => exact .str s
  | sc v hv => exact .sc v hv
  | nil A c z f => exact .nil A c z f
  | row b off cap z n f cs hb hl hm hz hc _ ih =>
    refine .row b off cap z n f cs (hP b hb).1 hl hm hz (fun i j y hi hy => ?_) ih
    rw [← hc i j y hi hy]
    exact World.cell?_of_block (w := w) (a := ⟨b, off + i * z + j, none⟩) (hP b hb).2

theorem TRel.mono {g g' : Gh} {w w' : World} {p : Path} {v : Value} {x : TV} (h : TRel g w p v x)
    (hP : ∀ b, g.P b → g'.P b ∧ w'.heap[b]? = w.heap[b]?) {r' : Root}
    (hr : ∀ b st, g.ow b = some (p.1, st) → g'.ow b = some (r', st) ∧ w'.heap[b]? = w.heap[b]?) : TRel g' w' (r', p.2) v x := by
  induction h with
  | fr h => exact .fr (h.mono hP)
  | hole => exact .hole
  | nil z e f => exact .nil z e f
  | @own p b cap z e n f c cs ho hb hc hl hm hz hcs _ ih =>
    obtain ⟨h1, h2⟩ := hr b p.2 ho
    exact .own b cap z e n f c cs h1 (hb.eq h2) hc hl hm hz hcs fun i j y hi hy => ih i j y hi hy hr

/-- Neither owned nor a hole: it may be copied. -/
def TV.plain : TV → Bool
  | .own .. | .hole => false
  | _ => true

theorem TRel.plain {g : Gh} {w : World} {p : Path} {v : Value} {x : TV} (h : TRel g w p v x) (hx : x.plain = true) : FRel g.P w v x := by
  cases h with
  | fr h => exact h
  | hole => cases hx
  | nil => cases hx
  | own => cases hx

theorem FRel.one {P : Nat → Prop} {w : World} {v : Value} {x : TV} (h : FRel P w v x) : v.oneCell' = true := by
  cases h <;> first | rfl | assumption

theorem TRel.one {g : Gh} {w : World} {p : Path} {v : Value} {x : TV} (h : TRel g w p v x) (hx : x ≠ .hole) : v.oneCell' = true := by
  cases h with
  | fr h => exact h.one
  | hole => exact absurd rfl hx
  | nil => rfl
  | own => rfl

theorem FRel.ext {P : Nat → Prop} {w : World} {v : Value} {z n n' : Nat} {f f' : Nat → List TV} (h : FRel P w v (.fz z n f)) (hn : n = n') (hf : ∀ i, i < n → f i = f' i) : FRel P w v (.fz z n' f') := by
  subst hn
  cases h with
  | nil => exact .nil _ _ z f'
  | row b off cap _ _ _ cs hb hl hm hz hc hr =>
    exact .row b off cap z n f' cs hb hl hm (fun i hi => by rw [← hf i hi]; exact hz i hi) (fun i j y hi hy => hc i j y hi (by rw [hf i hi]; exact hy)) (fun i j y hi hy => hr i j y hi (by rw [hf i hi]; exact hy))

theorem TRel.ext {g : Gh} {w : World} {p : Path} {v : Value} {z n n' : Nat} {e : TypeId} {f f' : Nat → List TV} (h : TRel g w p v (.own z e n f)) (hn : n = n') (hf : ∀ i, i < n → f i = f' i) : TRel g w p v (.own z e n' f') := by
  subst hn
  cases h with
  | fr h => cases h
  | nil => exact .nil z e f'
  | own b cap _ _ _ _ c cs ho hb hc hl hm hz hcs hr =>
    exact .own b cap z e n f' c cs ho hb hc hl hm (fun i hi => by rw [← hf i hi]; exact hz i hi) (fun i j y hi hy => hcs i j y hi (by rw [hf i hi]; exact hy)) (fun i j y hi hy => hr i j y hi (by rw [hf i hi]; exact hy))

theorem own_inv {g : Gh} {w : World} {p : Path} {v : Value} {z : Nat} {e : TypeId} {n : Nat} {f : Nat → List TV} (h : TRel g w p v (.own z e n f)) :
    (v = .slice none 0 0 ∧ n = 0) ∨ ∃ b cap c, ∃ cs : Nat → Nat → Value, g.ow b = some p ∧ v = .slice (some ⟨b, 0, none⟩) n cap ∧ Row w b e c ∧ c.size = cap * z ∧ n ≤ cap ∧ cap ≤ maxLen ∧
      (∀ i, i < n → (f i).length = z) ∧ (∀ i j y, i < n → (f i)[j]? = some y → c[i * z + j]? = some (cs i j)) ∧ (∀ i j y, i < n → (f i)[j]? = some y → TRel g w (p.1, (i, j) :: p.2) (cs i j) y) := by
  cases h with
  | fr h => cases h
  | nil => exact .inl ⟨rfl, rfl⟩
  | own b cap _ _ _ _ c cs h1 h2 h3 h4 h5 h6 h7 h8 => exact .inr ⟨b, cap, c, cs, h1, rfl, h2, h3, h4, h5, h6, h7, h8⟩

theorem fz_inv {P : Nat → Prop} {w : World} {v : Value} {z n : Nat} {f : Nat → List TV} (h : FRel P w v (.fz z n f)) :
    ((∃ A c, v = .slice A 0 c) ∧ n = 0) ∨ ∃ b off cap, ∃ cs : Nat → Nat → Value, P b ∧ v = .slice (some ⟨b, off, none⟩) n cap ∧ n ≤ cap ∧ cap ≤ maxLen ∧
      (∀ i, i < n → (f i).length = z) ∧ (∀ i j y, i < n → (f i)[j]? = some y → w.cell? ⟨b, off + i * z + j, none⟩ = some (cs i j)) ∧ (∀ i j y, i < n → (f i)[j]? = some y → FRel P w (cs i j) y) := by
  cases h with
  | nil A c => exact .inl ⟨⟨A, c, rfl⟩, rfl⟩
  | row b off cap _ _ _ cs h1 h2 h3 h4 h5 h6 => exact .inr ⟨b, off, cap, cs, h1, rfl, h2, h3, h4, h5, h6⟩

end Go.Sx
