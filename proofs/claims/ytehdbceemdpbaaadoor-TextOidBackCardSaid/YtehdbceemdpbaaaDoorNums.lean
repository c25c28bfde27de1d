/- The walk of the reference's Numbers: the numbers of an object identifier's text. -/
import Derived.Test.YtehdbceemdpbaaaDoorOidW2
import Derived.Test.YtehdbceemdpbaaaDoorPutR
namespace Go.Proofs.YtehdbceemdpbaaaDoor
open Go Go.RowKit

namespace Od
/-- Ahead of byte i, the part that begins at 'from': the parts before it are the numbers ns; behind the last byte: all parts are. -/
structure NI (L : List UInt8) (i fr : Nat) (ns : List Nat) : Prop where
  le : fr ≤ i
  len : ns.length ≤ i
  go : i ≤ L.length → (∃ pre, parts 46 L = pre ++ parts 46 (L.drop fr) ∧ numsOf pre = some ns) ∧ ∀ b ∈ (L.drop fr).take (i - fr), b ≠ 46
  fin : L.length < i → numsOf (parts 46 L) = some ns
theorem NI.start (L : List UInt8) : NI L 0 0 [] := ⟨Nat.le_refl _, Nat.le_refl _, fun _ => ⟨⟨[], rfl, rfl⟩, by simp⟩, fun h => by omega⟩
theorem numsOf_append {a b : List (List UInt8)} {ns ms : List Nat} (ha : numsOf a = some ns) (hb : numsOf b = some ms) : numsOf (a ++ b) = some (ns ++ ms) := by
  induction a generalizing ns with
  | nil => simp [numsOf] at ha; subst ha; exact hb
  | cons p a ih =>
    simp only [List.cons_append, numsOf] at ha ⊢
    cases hp : numL p with
    | none => rw [hp] at ha; simp at ha
    | some n =>
      cases hr : numsOf a with
      | none => rw [hp, hr] at ha; simp at ha
      | some r =>
        rw [hp, hr] at ha
        simp only [Option.some.injEq] at ha
        subst ha
        rw [ih hr]; rfl
theorem NI.next {L : List UInt8} {i fr : Nat} {ns : List Nat} (h : NI L i fr ns) (hi : i < L.length) (hc : L[i] ≠ 46) : NI L (i + 1) fr ns := by
  obtain ⟨h1, h2, h3, h4⟩ := h
  obtain ⟨h5, h6⟩ := h3 (by omega)
  refine ⟨by omega, by omega, fun _ => ⟨h5, ?_⟩, fun h => by omega⟩
  intro b hb
  have e : (L.drop fr).take (i + 1 - fr) = (L.drop fr).take (i - fr) ++ [L[i]] := by
    have hl : i - fr < (L.drop fr).length := by rw [List.length_drop]; omega
    rw [show i + 1 - fr = (i - fr) + 1 by omega, List.take_succ_eq_append_getElem hl, List.getElem_drop]
    simp only [Nat.add_sub_cancel' h1]
  rw [e] at hb
  rcases List.mem_append.1 hb with hb | hb
  · exact h6 b hb
  · simp at hb; rw [hb]; exact hc
/-- The part that ends here. -/
theorem NI.part {L : List UInt8} {i fr : Nat} {ns : List Nat} (h : NI L i fr ns) (hi : i ≤ L.length) (hc : ∀ h : i < L.length, L[i] = 46) :
    (L.drop fr).take (i - fr) ∈ parts 46 L ∧ ∀ n, numL ((L.drop fr).take (i - fr)) = some n → NI L (i + 1) (i + 1) (ns ++ [n]) := by
  obtain ⟨h1, h2, h3, h4⟩ := h
  obtain ⟨⟨pre, h5, h5'⟩, h6⟩ := h3 hi
  by_cases hlt : i < L.length
  · have e : L.drop fr = (L.drop fr).take (i - fr) ++ 46 :: L.drop (i + 1) := by
      have h7 : L.drop i = 46 :: L.drop (i + 1) := by rw [List.drop_eq_getElem_cons hlt, hc hlt]
      rw [← h7]
      have h8 := (List.take_append_drop (i - fr) (L.drop fr)).symm
      rw [List.drop_drop] at h8
      rw [show fr + (i - fr) = i by omega] at h8
      exact h8
    have hp : parts 46 (L.drop fr) = (L.drop fr).take (i - fr) :: parts 46 (L.drop (i + 1)) := by
      rw [show parts 46 (L.drop fr) = parts 46 ((L.drop fr).take (i - fr) ++ 46 :: L.drop (i + 1)) from congrArg _ e]
      exact parts_cut h6
    refine ⟨by rw [h5, hp]; simp, fun n hn => ⟨Nat.le_refl _, by simp; omega, fun _ => ⟨⟨pre ++ [(L.drop fr).take (i - fr)], by rw [h5, hp]; simp, numsOf_append h5' (by simp [numsOf, hn])⟩, by simp⟩, fun h => by omega⟩⟩
  · have he : i = L.length := by omega
    have e : (L.drop fr).take (i - fr) = L.drop fr := List.take_of_length_le (by rw [List.length_drop]; omega)
    rw [e] at h6 ⊢
    have hp : parts 46 (L.drop fr) = [L.drop fr] := parts_none h6
    refine ⟨by rw [h5, hp]; simp, fun n hn => ⟨Nat.le_refl _, by simp; omega, fun h => by omega, fun _ => ?_⟩⟩
    rw [h5, hp]; exact numsOf_append h5' (by simp [numsOf, hn])
end Od
/-- append of one number to a row of numbers of the call's own. -/
theorem wpList_push64 {P : Program} {ops : Array Oper} {rest : List Oper} {o : Oper} {a : Act} {Q : Exit → Act → World → Prop} {w1 : World} (hgd : o.guard = none) (s x : Operand) (t : TypeId)
    (ho : o.op = .call { callee := .builtin .append, args := #[s, x], argTypes := #[t, t] }) (base : Nat) (i : TypeInfo) (ht : P.underlying t = some (.slice 64)) (hi : P.info? 64 = some i) (hz : i.zero = some (.int .u64 0))
    (hsize : i.size = 1) (hby : i.bytes = 8) (v : Value) (l : List Nat) (hs : a.eval s = v) (hown : w1.ownsRow base 64 1 v l.length (u64s l))
    (n : Int) (c : Nat) (hc : n = (c : Int)) (cap : Nat) (hx : a.eval x = .slice (some ⟨w1.heap.size, 0, none⟩) 1 cap) (hl : l.length ≤ 1000000) (hbase : base ≤ w1.heap.size)
    (h : ∀ v' w', w'.ownsRow base 64 1 v' (l ++ [c]).length (u64s (l ++ [c])) → Below base w1 w' → wpList P ops Q rest (a.put o.dst v') w') : wpList P ops Q (o :: rest) a (w1.alloc (.cells #[.int .u64 n] 64)) := by
  subst hc
  have hr : Reads (w1.alloc (.cells #[.int .u64 (c : Int)] 64)) (w1.heap.size + 1) 1 (some ⟨w1.heap.size, 0, none⟩) 1 [.int .u64 (c : Int)] :=
    ⟨rfl, fun _ => ⟨_, rfl, by simp, fun j u hu => by
      match j, hu with
      | 0, hu =>
        simp at hu; subst hu
        have := (Blk.new w1 64 #[.int .u64 (c : Int)]).cell 0
        simp [Addr.add, this]⟩⟩
  refine wpList_append_any _ hgd s x t ho base 64 i _ 1 8 ht hi hz hsize hby rfl (by omega) v l.length (u64s l) hs (hown.alloc _) _ _ 1 cap _ hx hr (by intro u hu; simp at hu; subst hu; rfl) (by simp only [maxLen]; omega) (by omega) (by simp; omega) (fun v' w' h1 h2 h3 => h v' w' ?_ ?_)
  · have : u64s (l ++ [c]) = u64s l ++ [.int .u64 (c : Int)] := by simp [u64s]
    rw [this, List.length_append]
    exact h1
  · exact ((Below.refl base w1).alloc hbase _).grown h2 (by simp; omega) (fun k hk => (hown.lt k hk).1)
/-- What Numbers answers. -/
def NumsPost (s : ByteArray) (w : World) (e : Ending) (w' : World) : Prop :=
  match Od.numsOf (Od.parts 46 s.data.toList) with
  | some ns => ∃ v, e = .returned (.tuple #[v, .bool (Od.oidOk ns)]) ∧ w'.ownsRow w.heap.size 64 1 v ns.length (u64s ns) ∧ Below w.heap.size w w'
  | none => e = .returned (.tuple #[.slice none 0 0, .bool false]) ∧ Below w.heap.size w w'
theorem numsPost_none {s : ByteArray} {w w' : World} (h : Od.numsOf (Od.parts 46 s.data.toList) = none) (hb : Below w.heap.size w w') : NumsPost s w (.returned (.tuple #[.slice none 0 0, .bool false])) w' := by
  unfold NumsPost; rw [h]; exact ⟨rfl, hb⟩
theorem numsPost_some {s : ByteArray} {w w' : World} {ns : List Nat} {v : Value} {b : Bool} (h : Od.numsOf (Od.parts 46 s.data.toList) = some ns) (hb : b = Od.oidOk ns) (hr : w'.ownsRow w.heap.size 64 1 v ns.length (u64s ns)) (hbl : Below w.heap.size w w') : NumsPost s w (.returned (.tuple #[v, .bool b])) w' := by
  unfold NumsPost; rw [h, hb]; exact ⟨v, rfl, hr, hbl⟩
theorem own_nil64 (w : World) (base : Nat) : w.ownsRow base 64 1 (.slice none 0 0) (List.length ([] : List Nat)) (u64s []) := World.ownsRow_nil _ _ _ _
theorem cut_list (s : ByteArray) (a b : Nat) : (s.extract a b).data.toList = (s.data.toList.drop a).take (b - a) := by rw [Lib.extract_data]
set_option maxHeartbeats 8000000 in
set_option maxRecDepth 100000 in
theorem refnums_any (s : ByteArray) (w : World) (hs : s.size ≤ 10000) :
    Calls Tryd.prog 50 #[.string s] w (NumsPost s w) := by
  obtain ⟨i0, hi0, hz0, hz1, hz2⟩ := info_parts info_u64
  have hL : s.size = s.data.toList.length := Lib.size_eq s
  have HL := Lib.hid hL
  clear hL
  go_enter Tryd.func50, Tryd.ntmps50
  go_wp2_with fail
  go_loopw [4, 5, 6] (fun t4 t5 t6 wr => ∃ (ns : List Nat) (fr i : Nat) (v : Value), v = t4 ∧ t5 = .int .i64 fr ∧ t6 = .int .i64 i ∧ fr ≤ i ∧ i ≤ s.size + 1 ∧ ns.length ≤ i ∧ Hid (wr.ownsRow w.heap.size 64 1 v ns.length (u64s ns) ∧ Below w.heap.size w wr ∧ Od.NI s.data.toList i fr ns)) (fun _ _ t6 _ => s.size + 1 - (intOf t6).toNat)
  case atStart => exact ⟨[], 0, 0, _, rfl, rfl, rfl, Nat.le_refl _, Nat.zero_le _, Nat.le_refl _, own_nil64 _ _, Below.refl _ _, Od.NI.start _⟩
  case round =>
    obtain ⟨ns, fr, i, v, rfl, rfl, rfl, hfr, hi, hnl, HA⟩ := hrel
    have hz := HA.out.2.1.size
    by_cases hin : i ≤ s.size
    · by_cases hdot : ∃ h : i < s.size, s[i].toNat ≠ 46
      · obtain ⟨hlt, hne⟩ := hdot
        have hne2 : ((s[i].toNat : Int) == 46) = false := by rw [beq_eq_false_iff_ne]; omega
        have Hnext : Hid (Od.NI s.data.toList (i + 1) fr ns) := HA.out.2.2.next (by rw [← HL.out]; exact hlt) (by rw [at_list s i hlt]; intro e; rw [e] at hne; exact hne rfl)
        clear hne
        go_wp2_with fail
        go_roundw
        case rel => exact ⟨ns, fr, i + 1, _, rfl, rfl, by go_num, by omega, by omega, by omega, HA.out.1, HA.out.2.1, Hnext.out⟩
        case measure => simp [intOf]; omega
      · have hpart := HA.out.2.2.part (by rw [← HL.out]; exact hin) (fun h => by
          have h' : i < s.size := by rw [HL.out]; exact h
          rw [at_list s i h']
          have : s[i].toNat = 46 := by
            rcases Nat.decEq s[i].toNat 46 with h2 | h2
            · exact absurd ⟨h', h2⟩ hdot
            · exact h2
          exact UInt8.toNat_inj.1 (by rw [this]; rfl))
        rw [← cut_list] at hpart
        have Hpart := Lib.hid hpart
        clear hpart
        have hsz : (s.extract fr i).size ≤ 1000000 := by
          rw [Lib.size_eq, cut_list, List.length_take, List.length_drop, ← HL.out]; omega
        have Hsz := Lib.hid hsz
        clear hsz
        by_cases hlt : i < s.size
        · have hne2 : ((s[i].toNat : Int) == 46) = true := by
            rw [beq_iff_eq]
            rcases Nat.decEq s[i].toNat 46 with h2 | h2
            · exact absurd ⟨hlt, h2⟩ hdot
            · omega
          clear hdot
          go_wp2_with fail
          refine (refnumber_any _ _ Hsz.out).mono ?_
          rintro _ w2 ⟨hR, rfl⟩
          rcases hR with ⟨n, hn, rfl⟩ | ⟨hn, x, rfl⟩
          · have Hnext := Lib.hid (Hpart.out.2 n hn)
            clear hn
            go_wp2_with (refine wpList_push64 rfl (.tmp 36) (.tmp 38) 60 rfl w.heap.size i0 Tryd.underlying60 hi0 hz0 hz1 hz2 _ ns rfl HA.out.1 _ n rfl 1 rfl (by omega) hz ?_; intro v2 w2 hown2 hb2)
            go_roundw
            case rel => exact ⟨ns ++ [n], i + 1, i + 1, v2, rfl, by go_num, by go_num, by omega, by omega, by simp; omega, hown2, HA.out.2.1.trans hb2, Hnext.out⟩
            case measure => simp [intOf]; omega
          · have Hbad := Lib.hid (numsOf_bad Hpart.out.1 hn)
            clear hn
            go_wp2_with fail
            go_ret2
            exact numsPost_none Hbad.out HA.out.2.1
        · clear hdot
          go_wp2_with fail
          refine (refnumber_any _ _ Hsz.out).mono ?_
          rintro _ w2 ⟨hR, rfl⟩
          rcases hR with ⟨n, hn, rfl⟩ | ⟨hn, x, rfl⟩
          · have Hnext := Lib.hid (Hpart.out.2 n hn)
            clear hn
            go_wp2_with (refine wpList_push64 rfl (.tmp 36) (.tmp 38) 60 rfl w.heap.size i0 Tryd.underlying60 hi0 hz0 hz1 hz2 _ ns rfl HA.out.1 _ n rfl 1 rfl (by omega) hz ?_; intro v2 w2 hown2 hb2)
            go_roundw
            case rel => exact ⟨ns ++ [n], i + 1, i + 1, v2, rfl, by go_num, by go_num, by omega, by omega, by simp; omega, hown2, HA.out.2.1.trans hb2, Hnext.out⟩
            case measure => simp [intOf]; omega
          · have Hbad := Lib.hid (numsOf_bad Hpart.out.1 hn)
            clear hn
            go_wp2_with fail
            go_ret2
            exact numsPost_none Hbad.out HA.out.2.1
    · have hnums := HA.out.2.2.fin (by rw [← HL.out]; omega)
      have Hnums := Lib.hid hnums
      clear hnums
      obtain ⟨A, c, hv, hr⟩ := reads_own HA.out.1
      match ns, hv, hr, hnl, HA, Hnums with
      | [], hv, hr, hnl, HA, Hnums =>
        subst hv
        clear hr
        simp only [List.length_nil]
        go_wp2_with fail
        go_ret2
        exact numsPost_some Hnums.out (by decide) HA.out.1 HA.out.2.1
      | [a], hv, hr, hnl, HA, Hnums =>
        subst hv
        clear hr
        simp only [List.length_singleton]
        go_wp2_with fail
        go_ret2
        exact numsPost_some Hnums.out (by simp [Od.oidOk]) HA.out.1 HA.out.2.1
      | a :: b :: rest, hv, hr, hnl, HA, Hnums =>
        obtain ⟨ad, rfl, _, hcl⟩ := hr.2 (by simp)
        have c0 : wr.cell? ad = some (.int .u64 (a : Int)) := by have h0 := hcl 0 (.int .u64 (a : Int)) rfl; rwa [show ad.add 0 = ad by simp [Addr.add]] at h0
        have c1 : wr.cell? (⟨ad.block, ad.off + 1, none⟩ : Addr) = some (.int .u64 (b : Int)) := hcl 1 _ rfl
        subst hv
        clear hcl hr
        have hrl : rest.length ≤ 10001 := by simp at hnl; omega
        clear hnl
        simp only [List.length_cons]
        obtain ⟨y, hy⟩ : ∃ y : Int, y = (a : Int) := ⟨_, rfl⟩
        obtain ⟨x, hx⟩ : ∃ x : Int, x = (b : Int) := ⟨_, rfl⟩
        rw [← hy] at c0
        rw [← hx] at c1
        have hy0 : 0 ≤ y := by omega
        have hx0 : 0 ≤ x := by omega
        have Hy := Lib.hid hy
        have Hx := Lib.hid hx
        clear hy hx
        by_cases h3 : y ≤ 2
        · by_cases h2 : y = 2
          · have e1 : (y == 2) = true := by rw [beq_iff_eq]; exact h2
            have h4 : ¬ y < 2 := by omega
            by_cases hb : x < 9223372036854775728
            · have Hok : Hid (true = Od.oidOk (a :: b :: rest)) := by
                have := Hy.out; have := Hx.out
                show true = _; unfold Od.oidOk Od.top; rw [eq_comm, decide_eq_true_eq]; simp; omega
              clear h2
              go_wp2_with fail
              go_ret2
              exact numsPost_some Hnums.out Hok.out HA.out.1 HA.out.2.1
            · have Hok : Hid (false = Od.oidOk (a :: b :: rest)) := by
                have := Hy.out; have := Hx.out
                show false = _; unfold Od.oidOk Od.top; rw [eq_comm, decide_eq_false_iff_not]; simp; omega
              clear h2
              go_wp2_with fail
              go_ret2
              exact numsPost_some Hnums.out Hok.out HA.out.1 HA.out.2.1
          · have e1 : (y == 2) = false := by rw [beq_eq_false_iff_ne]; exact h2
            have h4 : y < 2 := by omega
            by_cases hb : x < 40
            · have Hok : Hid (true = Od.oidOk (a :: b :: rest)) := by
                have := Hy.out; have := Hx.out
                show true = _; unfold Od.oidOk Od.top; rw [eq_comm, decide_eq_true_eq]; simp; omega
              clear h2
              go_wp2_with fail
              go_ret2
              exact numsPost_some Hnums.out Hok.out HA.out.1 HA.out.2.1
            · have Hok : Hid (false = Od.oidOk (a :: b :: rest)) := by
                have := Hy.out; have := Hx.out
                show false = _; unfold Od.oidOk Od.top; rw [eq_comm, decide_eq_false_iff_not]; simp; omega
              clear h2
              go_wp2_with fail
              go_ret2
              exact numsPost_some Hnums.out Hok.out HA.out.1 HA.out.2.1
        · have Hok : Hid (false = Od.oidOk (a :: b :: rest)) := by
            have := Hy.out; have := Hx.out
            show false = _; unfold Od.oidOk Od.top; rw [eq_comm, decide_eq_false_iff_not]; simp; omega
          go_wp2_with fail
          go_ret2
          exact numsPost_some Hnums.out Hok.out HA.out.1 HA.out.2.1
end Go.Proofs.YtehdbceemdpbaaaDoor
