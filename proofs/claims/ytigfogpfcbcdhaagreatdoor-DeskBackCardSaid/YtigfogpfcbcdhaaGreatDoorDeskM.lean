/- A line that a call builds in memory: its struct's block, its row of numbers, its row of rows of bytes; how each append and each store leaves them. No condition: lemmas alone. -/
import Derived.Test.YtigfogpfcbcdhaaGreatDoorDeskT
set_option linter.unusedVariables false
set_option linter.unusedSimpArgs false
namespace Go.Proofs.YtigfogpfcbcdhaaGreatDoor
open Go Go.RowKit
/-- 'x = append(x, u)' at a row of one-cell elements of the call's own. -/
theorem wpList_pushE {P : Program} {ops : Array Oper} {rest : List Oper} {o : Oper} {a : Act} {Q : Exit → Act → World → Prop} {w1 : World} (hgd : o.guard = none) (s x : Operand) (t e : TypeId)
    (ho : o.op = .call { callee := .builtin .append, args := #[s, x], argTypes := #[t, t] }) (base : Nat) (i : TypeInfo) (z : Value) (bytes : Nat) (ht : P.underlying t = some (.slice e)) (hi : P.info? e = some i) (hz : i.zero = some z)
    (hsize : i.size = 1) (hby : i.bytes = bytes) (hzs : z.cells.size = 1) (v : Value) (n : Nat) (xs : List Value) (hs : a.eval s = v) (hown : w1.ownsRow base e 1 v n xs)
    (u : Value) (hu : u.oneCell' = true) (cap : Nat) (hx : a.eval x = .slice (some ⟨w1.heap.size, 0, none⟩) 1 cap) (hl : n ≤ 10000000) (hby2 : bytes ≤ 1000) (hbase : base ≤ w1.heap.size)
    (h : ∀ v' w', w'.ownsRow base e 1 v' (n + 1) (xs ++ [u]) → w1.grownBy w' v.ownBlock → (∀ g, v'.ownBlock = some g → v.ownBlock = some g ∨ w1.heap.size ≤ g) → wpList P ops Q rest (a.put o.dst v') w') : wpList P ops Q (o :: rest) a (w1.alloc (.cells #[u] e)) := by
  have hr : Reads (w1.alloc (.cells #[u] e)) (w1.heap.size + 1) 1 (some ⟨w1.heap.size, 0, none⟩) 1 [u] :=
    ⟨rfl, fun _ => ⟨_, rfl, by simp, fun j y hy => by
      match j, hy with
      | 0, hy => simp at hy; subst hy; simp [Addr.add]⟩⟩
  have hm : (n + 1) * bytes ≤ (10000000 + 1) * 1000 := Nat.mul_le_mul (by omega) hby2
  refine wpList_append_any _ hgd s x t ho base e i z 1 bytes ht hi hz hsize hby hzs (by omega) v n xs hs (hown.alloc _) _ _ 1 cap _ hx hr (by intro y hy; simp at hy; subst hy; exact hu) (by simp only [maxLen]; omega) (by omega) (by simp; omega) (fun v' w' h1 h2 h3 => h v' w' h1 ?_ ?_)
  · exact grown_trans2 (World.grownBy_alloc w1 _ _) h2 (fun g hg => .inl hg)
  · intro g hg
    rcases h3 with h3 | h3
    · exact .inl (by rw [← h3]; exact hg)
    · rw [h3] at hg; injection hg with hg; subst hg; exact .inr (by simp)
theorem own_ne_iter {w : World} {base : Nat} {e : TypeId} {size n : Nat} {v : Value} {xs : List Value} (h : w.ownsRow base e size v n xs) {k : Nat} {s : ByteArray} {p : Nat} (hk : w.heap[k]? = some (.stringIter s p)) : v.ownBlock ≠ some k := by
  rcases h.2 with ⟨rfl, _⟩ | ⟨g', cap, cur, rfl, _, hh, _⟩
  · simp [Value.ownBlock]
  · intro he
    have : g' = k := by simpa [Value.ownBlock] using he
    subst this
    rw [hk] at hh; cases hh
theorem grown_iterAt {w : World} {k : Nat} (s : ByteArray) (p : Nat) : w.grownBy (w.iterAt k s p) (some k) :=
  ⟨rfl, rfl, rfl, by rw [Lib.iterAt_size]; exact Nat.le_refl _, fun i _ hne => Lib.iterAt_other w k i s p (fun e => hne (by rw [e]))⟩
theorem own_iter {w : World} {base : Nat} {e : TypeId} {size n : Nat} {v : Value} {xs : List Value} (h : w.ownsRow base e size v n xs) {k : Nat} {s : ByteArray} {p : Nat} (hk : w.heap[k]? = some (.stringIter s p)) (p' : Nat) : (w.iterAt k s p').ownsRow base e size v n xs :=
  h.kept (grown_iterAt s p') (.inr (own_ne_iter h hk))
/-- Two rows of elements of two types lie apart. -/
theorem own_apart {w : World} {b1 b2 : Nat} {e1 e2 : TypeId} {s1 s2 n1 n2 : Nat} {v1 v2 : Value} {x1 x2 : List Value} (h1 : w.ownsRow b1 e1 s1 v1 n1 x1) (h2 : w.ownsRow b2 e2 s2 v2 n2 x2) (hne : e1 ≠ e2) : v1.ownBlock = none ∨ v1.ownBlock ≠ v2.ownBlock := by
  rcases h2.2 with ⟨rfl, _⟩ | ⟨g', cap, cur, rfl, _, hh, _⟩
  · cases hv : v1.ownBlock with
    | none => exact .inl rfl
    | some k => exact .inr (by simp [Value.ownBlock])
  · right
    have := own_blk_ne (t := e2) (cs := cur) h1 hh hne
    simpa [Value.ownBlock] using this
/-- The memory of a line that is being built: T is the struct's type, Lb its block. -/
structure PMem (T : TypeId) (B : Nat) (wr : World) (Lb : Nat) (word : ByteArray) (vn vb : Value) (ns : List Int) (bs : List (List UInt8)) : Prop where
  blk : Blk wr Lb T #[.string word, vn, vb]
  low : B ≤ Lb
  nums : wr.ownsRow B 2 1 vn ns.length (ns.map (Value.int .i64))
  rows : ∃ xs : List Value, wr.ownsRow B 52 1 vb bs.length xs ∧ xs.length = bs.length ∧ ∀ (j : Nat) (u : Value) (b : List UInt8), xs[j]? = some u → bs[j]? = some b → wr.ownsRow B 5 1 u b.length (Lib.byteCells b)
section
variable {T : TypeId} {B : Nat} {wr w' : World} {Lb : Nat} {word : ByteArray} {vn vb : Value} {ns : List Int} {bs : List (List UInt8)}
theorem PMem.stays (h : PMem T B wr Lb word vn vb ns bs) (hb : Below wr.heap.size wr w') : PMem T B w' Lb word vn vb ns bs :=
  ⟨h.blk.below hb h.blk.lt, h.low, own_below h.nums hb, by
    obtain ⟨xs, h1, h2, h3⟩ := h.rows
    exact ⟨xs, own_below h1 hb, h2, fun j u b hu hb' => own_below (h3 j u b hu hb') hb⟩⟩
theorem PMem.iter (h : PMem T B wr Lb word vn vb ns bs) {k : Nat} {s : ByteArray} {p : Nat} (hk : wr.heap[k]? = some (.stringIter s p)) (p' : Nat) : PMem T B (wr.iterAt k s p') Lb word vn vb ns bs :=
  ⟨by
    have hb := h.blk
    unfold Blk at hb ⊢
    rw [Lib.iterAt_other _ _ _ _ _ (fun e => by subst e; rw [hk] at hb; cases hb)]
    exact hb, h.low, own_iter h.nums hk p', by
    obtain ⟨xs, h1, h2, h3⟩ := h.rows
    exact ⟨xs, own_iter h1 hk p', h2, fun j u b hu hb' => own_iter (h3 j u b hu hb') hk p'⟩⟩
/-- A line in order: 'l.Nums = append(l.Nums, n)', the store behind the append. -/
theorem PMem.num (h : PMem T B wr Lb word vn vb ns bs) (hT : T ≠ 2 ∧ T ≠ 52 ∧ T ≠ 5) {n : Int} {vn' : Value} (h1 : w'.ownsRow B 2 1 vn' (ns.length + 1) (ns.map (Value.int .i64) ++ [.int .i64 n])) (h2 : wr.grownBy w' vn.ownBlock) :
    PMem T B (w'.setCell ⟨Lb, 1, none⟩ vn') Lb word vn' vb (ns ++ [n]) bs := by
  have hL : Blk w' Lb T #[.string word, vn, vb] := h.blk.grown h2 (fun e => own_blk_ne h.nums h.blk (Ne.symm hT.1) e.symm)
  obtain ⟨xs, r1, r2, r3⟩ := h.rows
  refine ⟨?_, h.low, ?_, xs, ?_, r2, fun j u b hu hb => ?_⟩
  · have := hL.set_ 1 vn'; simpa using this
  · have := own_setCell (p := ⟨Lb, 1, none⟩) h1 (own_blk_ne h1 hL (Ne.symm hT.1)) vn'
    simpa using this
  · have k1 := r1.kept h2 (own_apart r1 h.nums (by decide))
    exact own_setCell (p := ⟨Lb, 1, none⟩) k1 (own_blk_ne k1 hL (Ne.symm hT.2.1)) vn'
  · have k0 := r3 j u b hu hb
    have k1 := k0.kept h2 (own_apart k0 h.nums (by decide))
    exact own_setCell (p := ⟨Lb, 1, none⟩) k1 (own_blk_ne k1 hL (Ne.symm hT.2.2)) vn'
/-- 'l.Bytes = append(l.Bytes, b)'. -/
theorem PMem.row (h : PMem T B wr Lb word vn vb ns bs) (hT : T ≠ 2 ∧ T ≠ 52 ∧ T ≠ 5) {u : Value} {b : List UInt8} {vb' : Value} {xs : List Value} (hb : wr.ownsRow B 5 1 u b.length (Lib.byteCells b))
    (r1 : wr.ownsRow B 52 1 vb bs.length xs) (r2 : xs.length = bs.length) (r3 : ∀ (j : Nat) (u : Value) (b : List UInt8), xs[j]? = some u → bs[j]? = some b → wr.ownsRow B 5 1 u b.length (Lib.byteCells b))
    (h1 : w'.ownsRow B 52 1 vb' (bs.length + 1) (xs ++ [u])) (h2 : wr.grownBy w' vb.ownBlock) : PMem T B (w'.setCell ⟨Lb, 2, none⟩ vb') Lb word vn vb' ns (bs ++ [b]) := by
  have hL : Blk w' Lb T #[.string word, vn, vb] := h.blk.grown h2 (fun e => own_blk_ne r1 h.blk (Ne.symm hT.2.1) e.symm)
  have keep8 : ∀ (u : Value) (b : List UInt8), wr.ownsRow B 5 1 u b.length (Lib.byteCells b) → (w'.setCell ⟨Lb, 2, none⟩ vb').ownsRow B 5 1 u b.length (Lib.byteCells b) := by
    intro u b k0
    have k1 := k0.kept h2 (own_apart k0 r1 (by decide))
    exact own_setCell (p := ⟨Lb, 2, none⟩) k1 (own_blk_ne k1 hL (Ne.symm hT.2.2)) vb'
  refine ⟨?_, h.low, ?_, xs ++ [u], ?_, by simp [r2], fun j y c hy hc => ?_⟩
  · have := hL.set_ 2 vb'; simpa using this
  · have k1 := h.nums.kept h2 (own_apart h.nums r1 (by decide))
    exact own_setCell (p := ⟨Lb, 2, none⟩) k1 (own_blk_ne k1 hL (Ne.symm hT.1)) vb'
  · have := own_setCell (p := ⟨Lb, 2, none⟩) h1 (own_blk_ne h1 hL (Ne.symm hT.2.1)) vb'
    simpa using this
  · rcases Nat.lt_or_ge j xs.length with hj | hj
    · rw [List.getElem?_append_left hj] at hy
      rw [List.getElem?_append_left (by omega)] at hc
      exact keep8 y c (r3 j y c hy hc)
    · rw [List.getElem?_append_right hj] at hy
      rw [List.getElem?_append_right (by omega)] at hc
      have h0 : j - xs.length = 0 := by
        rcases Nat.eq_zero_or_pos (j - xs.length) with h0 | h0
        · exact h0
        · rw [List.getElem?_eq_none (by simp; omega)] at hy; cases hy
      rw [h0] at hy
      rw [← r2, h0] at hc
      simp at hy hc
      subst hy hc
      exact keep8 u b hb
theorem PMem.low_store (h : PMem T B wr Lb word vn vb ns bs) {p : Addr} (hp : p.block < B) (u : Value) : PMem T B (wr.setCell p u) Lb word vn vb ns bs :=
  ⟨h.blk.far (by have := h.low; omega) u, h.low, ownsRow_setCell_below h.nums hp u, by
    obtain ⟨xs, h1, h2, h3⟩ := h.rows
    exact ⟨xs, ownsRow_setCell_below h1 hp u, h2, fun j y b hy hb => ownsRow_setCell_below (h3 j y b hy hb) hp u⟩⟩
theorem is_own {e : TypeId} {v : Value} {n : Nat} {xs : List Value} {l : List D} (h : wr.ownsRow B e 1 v n xs) (ha : IsAll wr NoAv xs l) : Is wr NoAv v (.row 1 l) := by
  have hl : l.length = n := by have := h.1; rw [← ha.1]; omega
  rcases h.2 with ⟨rfl, h0⟩ | ⟨g, cap, cur, rfl, _, hh, hnc, _⟩
  · exact Is.row_ (us := xs) (by omega) (by decide) (by omega) ha (fun h => by omega)
  · refine Is.row_ (us := xs) (by omega) (by decide) hnc ha fun _ => ⟨g, 0, rfl, by simp, fun j u hu => ?_⟩
    have := h.cells (g := g) rfl j u hu
    unfold Addr.add at this
    split at this
    · rename_i hj; subst hj; simpa using this
    · simpa using this
theorem PMem.line (h : PMem T B wr Lb word vn vb ns bs) : LineAt wr NoAv (.agg #[.string word, vn, vb]) ⟨word.data.toList, ns, bs⟩ := by
  obtain ⟨xs, r1, r2, r3⟩ := h.rows
  refine ⟨vn, vb, by rw [Lib.mk_data], ?_, ?_⟩
  · refine is_own h.nums ?_
    have := IsAll.leaf wr NoAv (ns.map (Value.int .i64))
    rwa [List.map_map] at this
  · refine is_own r1 ⟨by simp [r2], fun j u d hu hd => ?_⟩
    rw [List.getElem?_map, Option.map_eq_some_iff] at hd
    obtain ⟨b, hb, rfl⟩ := hd
    obtain ⟨A, c, hv, hr⟩ := reads_own (r3 j u b hu hb)
    have hc : b.length ≤ c := by
      rcases (r3 j u b hu hb).2 with ⟨h1, h2⟩ | ⟨g, cap, cur, h1, _, _, h2, _⟩
      · rw [hv] at h1; injection h1 with _ h1 _; omega
      · rw [hv] at h1; injection h1 with _ _ h3; omega
    rw [hv]
    exact Is.ofBytes hr hc (fun _ _ => by simp)
end
end Go.Proofs.YtigfogpfcbcdhaaGreatDoor
