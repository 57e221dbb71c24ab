/- The mesh of a square: plain words. -/
import Derived.Test.YtggjdgjkdmgjnaaRows
import Derived.Test.YtggjdgjkdmgjnaaMe1
import Derived.Test.YtggjdgjkdmgjnaaRw4
import Derived.Test.YtggjdgjkdmgjnaaHt
import Derived.Test.YtggjdgjkdmgjnaaWi
namespace Go.Proofs.Ytggjdgjkdmgjnaa

open Go.RowKit
theorem Blk.newAt {w : World} {g : Nat} {T : TypeId} {cs : Array Value} (h : g = w.heap.size) : Blk (w.alloc (.cells cs T)) g T cs := by subst h; exact Blk.new _ _ _
theorem RowG.shape {α : Type} [Inhabited α] {N : List Nat → Prop} {TP : TypeId} {size lo hi : Nat} {El : World → Array Value → Nat → α → List Nat → Prop} {w : World} {v : Value} {l : List α} (h : RowG N TP size El lo hi w v l) : ∃ A n c, v = .slice A n c := by
  obtain ⟨_, _, h1, _⟩ := h
  rcases h1.2 with ⟨rfl, _⟩ | ⟨g, cap, cur, rfl, _⟩
  · exact ⟨_, _, _, rfl⟩
  · exact ⟨_, _, _, rfl⟩

def rg (a y x : Nat) : Nat → Int
  | 0 => (y : Int) * ((a : Int) + 1) + x
  | 1 => (y : Int) * ((a : Int) + 1) + x + 1
  | 2 => (y : Int) * ((a : Int) + 1) + x + a + 2
  | 3 => (y : Int) * ((a : Int) + 1) + x + a + 1
  | _ => (y : Int) * ((a : Int) + 1) + x
noncomputable def gpt (x y : Nat) : PtD := ⟨ofFrac (x : Int) 1, ofFrac (y : Int) 1⟩
noncomputable def hpt (x y : Nat) : PtD := ⟨ofFrac (2 * (x : Int) + 1) 2, ofFrac (2 * (y : Int) + 1) 2⟩
noncomputable def gRow (y k : Nat) : List PtD := (List.range k).map fun x => gpt x y
noncomputable def gGrid (a y : Nat) : List PtD := (List.range y).flatMap fun y => gRow y (a + 1)
noncomputable def cRow (y k : Nat) : List PtD := (List.range k).map fun x => hpt x y
noncomputable def cGrid (a y : Nat) : List PtD := (List.range y).flatMap fun y => cRow y a
def ctr (a y x : Nat) : Nat := (a + 1) * (a + 1) + y * a + x
def tri (a y x j : Nat) : TriD := ⟨(ctr a y x : Nat), rg a y x j, rg a y x (j + 1), 0, 0⟩
def tCell (a y x k : Nat) : List TriD := (List.range k).map (tri a y x)
def tRow (a y k : Nat) : List TriD := (List.range k).flatMap fun x => tCell a y x 4
def tGrid (a y : Nat) : List TriD := (List.range y).flatMap fun y => tRow a y a
/-- The points and the triangles, where y rows and x squares more are done. -/
noncomputable def sqP (a y x : Nat) : List PtD := gGrid a (a + 1) ++ cGrid a y ++ cRow y x
def sqT (a y x : Nat) : List TriD := tGrid a y ++ tRow a y x
noncomputable def sqL (a : Nat) : MeD := ⟨sqP a a 0, sqT a a 0⟩
theorem flat_succ {α : Type} (f : Nat → List α) (k : Nat) : (List.range (k + 1)).flatMap f = (List.range k).flatMap f ++ f k := by rw [List.range_succ, List.flatMap_append]; simp
theorem map_succ {α : Type} (f : Nat → α) (k : Nat) : (List.range (k + 1)).map f = (List.range k).map f ++ [f k] := by rw [List.range_succ, List.map_append]; rfl
theorem flat_len {α : Type} (f : Nat → List α) (c : Nat) (h : ∀ k, (f k).length = c) (k : Nat) : ((List.range k).flatMap f).length = k * c := by
  induction k with
  | zero => simp
  | succ k ih => rw [flat_succ, List.length_append, ih, h, Nat.succ_mul]
theorem gRow_len (y k : Nat) : (gRow y k).length = k := by simp [gRow]
theorem cRow_len (y k : Nat) : (cRow y k).length = k := by simp [cRow]
theorem gGrid_len (a y : Nat) : (gGrid a y).length = y * (a + 1) := flat_len _ _ (fun k => gRow_len k _) y
theorem cGrid_len (a y : Nat) : (cGrid a y).length = y * a := flat_len _ _ (fun k => cRow_len k _) y
theorem tCell_len (a y x k : Nat) : (tCell a y x k).length = k := by simp [tCell]
theorem tRow_len (a y k : Nat) : (tRow a y k).length = k * 4 := flat_len _ _ (fun _ => tCell_len _ _ _ _) k
theorem tGrid_len (a y : Nat) : (tGrid a y).length = y * (a * 4) := flat_len _ _ (fun _ => tRow_len _ _ _) y
theorem sqP_len (a y x : Nat) : (sqP a y x).length = ctr a y x := by simp only [sqP, List.length_append, gGrid_len, cGrid_len, cRow_len, ctr]
theorem sqT_len (a y x : Nat) : (sqT a y x).length = y * (a * 4) + x * 4 := by simp only [sqT, List.length_append, tGrid_len, tRow_len]
theorem gRow_succ (y k : Nat) : gRow y (k + 1) = gRow y k ++ [gpt k y] := map_succ _ _
theorem gGrid_succ (a y : Nat) : gGrid a (y + 1) = gGrid a y ++ gRow y (a + 1) := flat_succ _ _
theorem tCell_succ (a y x k : Nat) : tCell a y x (k + 1) = tCell a y x k ++ [tri a y x k] := map_succ _ _
theorem sqP_succ (a y x : Nat) : sqP a y (x + 1) = sqP a y x ++ [hpt x y] := by
  unfold sqP
  rw [show cRow y (x + 1) = cRow y x ++ [hpt x y] from map_succ _ _, List.append_assoc, List.append_assoc, List.append_assoc]
theorem sqP_row (a y : Nat) : sqP a (y + 1) 0 = sqP a y a := by
  unfold sqP
  rw [show cGrid a (y + 1) = cGrid a y ++ cRow y a from flat_succ _ _, show cRow (y + 1) 0 = [] from rfl, List.append_nil, List.append_assoc]
theorem sqT_succ (a y x : Nat) : sqT a y (x + 1) = sqT a y x ++ tCell a y x 4 := by
  unfold sqT
  rw [show tRow a y (x + 1) = tRow a y x ++ tCell a y x 4 from flat_succ _ _, List.append_assoc]
theorem sqT_row (a y : Nat) : sqT a (y + 1) 0 = sqT a y a := by
  unfold sqT
  rw [show tGrid a (y + 1) = tGrid a y ++ tRow a y a from flat_succ _ _, show tRow a (y + 1) 0 = [] from rfl, List.append_nil]
theorem sqP_zero (a : Nat) : sqP a 0 0 = gGrid a (a + 1) := by
  unfold sqP
  rw [show cGrid a 0 = [] from rfl, show cRow 0 0 = [] from rfl, List.append_nil, List.append_nil]
def ringA (a y x : Nat) : Array Value := #[.int .i64 (rg a y x 0), .int .i64 (rg a y x 1), .int .i64 (rg a y x 2), .int .i64 (rg a y x 3), .int .i64 (rg a y x 4)]
theorem ring_cells {W : World} {gr : Nat} {T : TypeId} {a y x k : Nat} (h : Blk W gr T (ringA a y x)) (hk : k < 4) : W.cell? ⟨gr, k, none⟩ = some (.int .i64 (rg a y x k)) ∧ W.cell? ⟨gr, k + 1, none⟩ = some (.int .i64 (rg a y x (k + 1))) := by
  rcases (show k = 0 ∨ k = 1 ∨ k = 2 ∨ k = 3 by omega) with rfl | rfl | rfl | rfl <;> exact ⟨(h.cell _).trans rfl, (h.cell _).trans rfl⟩
theorem Blk.newC {w : World} {T : TypeId} {cs cs' : Array Value} (h : cs = cs') : Blk (w.alloc (.cells cs T)) w.heap.size T cs' := by subst h; exact Blk.new _ _ _
theorem Blk.newCA {w : World} {g : Nat} {T : TypeId} {cs cs' : Array Value} (e : g = w.heap.size) (h : cs = cs') : Blk (w.alloc (.cells cs T)) g T cs' := by subst h e; exact Blk.new _ _ _
theorem RowG.shapeN {α : Type} [Inhabited α] {N : List Nat → Prop} {TP : TypeId} {size lo hi : Nat} {El : World → Array Value → Nat → α → List Nat → Prop} {w : World} {v : Value} {l : List α} (h : RowG N TP size El lo hi w v l) : ∃ A c, v = .slice A l.length c := by
  obtain ⟨_, _, h1, _⟩ := h
  rcases h1.2 with ⟨rfl, h0⟩ | ⟨g, cap, cur, rfl, _⟩
  · exact ⟨_, _, by rw [h0]⟩
  · exact ⟨_, _, rfl⟩
theorem OwMZ.nil (lo hi : Nat) (w : World) : OwMZ lo hi w none 0 0 none 0 0 ⟨[], []⟩ := ⟨rfl, rfl, Nat.le_refl _, Nat.le_refl _, Nat.zero_le _, Nat.zero_le _, .inl ⟨rfl, rfl⟩⟩
theorem wrap_id (n : Int) (h1 : -9223372036854775808 ≤ n) (h2 : n ≤ 9223372036854775807) : IntKind.i64.wrap n = n := by rw [IntKind.wrap_i64]; omega
/-- The four pairs of the reference's list. -/
def pairsA (gr : Nat) : Array Value := #[.slice (some ⟨gr + 0, 0, none⟩) 2 2, .slice (some ⟨gr + 1, 0, none⟩) 2 2, .slice (some ⟨gr + 2, 0, none⟩) 2 2, .slice (some ⟨gr + 3, 0, none⟩) 2 2]
theorem litq (gr k : Nat) (h : k < 4) : (pairsA gr)[k]? = some (.slice (some ⟨gr + k, 0, none⟩) 2 2) := by
  rcases (show k = 0 ∨ k = 1 ∨ k = 2 ∨ k = 3 by omega) with rfl | rfl | rfl | rfl <;> rfl
def LitQ (a y x gr : Nat) (W : World) : Prop := Blk W (gr + 4) 45 (pairsA gr) ∧ ∀ k, k < 4 → Blk W (gr + k) 3 #[.int .i64 (rg a y x k), .int .i64 (rg a y x (k + 1))]
theorem LitQ.keep {a y x gr : Nat} {w W : World} (h : LitQ a y x gr w) (hk : ∀ g, gr ≤ g → g ≤ gr + 4 → W.heap[g]? = w.heap[g]?) : LitQ a y x gr W :=
  ⟨(hk _ (by omega) (by omega)).trans h.1, fun k hk2 => (hk _ (by omega) (by omega)).trans (h.2 k hk2)⟩

end Go.Proofs.Ytggjdgjkdmgjnaa
