/- make and append at the operation, for slices that the call owns. Conditions: lengths within the memory that a call may take. -/
import Derived.Test.YtlgdijgfphedpaaOwn
import Derived.Test.YtlgdijgfphedpaaQuiet
namespace Go.Proofs.Ytlgdijgfphedpaa
open Go.RowKit

theorem info_int : (Try.prog.info? 3).map (fun i => (i.zero, i.size, i.bytes)) = some (some (.int .i64 0), 1, 8) := by kernel_rfl
theorem info_bool : (Try.prog.info? 4).map (fun i => (i.zero, i.size, i.bytes)) = some (some (.bool false), 1, 1) := by kernel_rfl
theorem info_ints : (Try.prog.info? 30).map (fun i => (i.zero, i.size, i.bytes)) = some (some (.slice none 0 0), 1, 24) := by kernel_rfl

section
variable {P : Program} {α : Type} [GR α] {w : World} {ops : Array Oper} {rest : List Oper} {o : Oper} {a : Act} {Q : Exit → Act → World → Prop}

/-- make([]T, n). -/
theorem wpList_mk (hg : o.guard = none) (x y : Operand) (t : TypeId) (hop : o.op = .makeSlice t x y) (e : TypeId) (z : Value) (bytes : Nat) (ht : P.underlying t = some (.slice e))
    (hi : (P.info? e).map (fun i => (i.zero, i.size, i.bytes)) = some (some z, 1, bytes)) (hzc : z.cells = #[z]) (B : Nat) (M : Nat → Prop) (d : α) (hs1 : GR.sz α = 1) (hz : ∀ w, GR.rep M w [z] d)
    (n : Nat) (hx : a.eval x = .int .i64 n) (hy : a.eval y = .int .i64 n) (hn : bytes * n ≤ 281474976710656) (hn2 : n ≤ maxLen) (hB : B ≤ w.heap.size)
    (h : ∀ (g c : Nat) (l : List α) (w' : World), Hid (l = List.replicate n d) → Ow B M w' e (.slice (some ⟨g, 0, none⟩) l.length c) l → w.heap.size ≤ g → w.heap.size < w'.heap.size → Below w.heap.size w w' →
      wpList P ops Q rest (a.put o.dst (.slice (some ⟨g, 0, none⟩) l.length c)) w') : wpList P ops Q (o :: rest) a w := by
  refine wpList_plain hg fun K hK => ?_
  obtain ⟨i, hi1, hi2, hi3, hi4⟩ := info_parts hi
  have hn' : (bytes : Int) * (n : Int) ≤ 281474976710656 := by
    have h1 : ((bytes * n : Nat) : Int) ≤ 281474976710656 := by omega
    rwa [Int.natCast_mul] at h1
  have hn3 : (n : Int) ≤ 9223372036854775807 := by
    have h1 := hn2
    unfold maxLen at h1
    omega
  have hr := run_make (P := P) w t e i z ht hi1 hi2 .i64 .i64 n n (by omega) (Int.le_refl _) (by rw [hi4]; exact hn') hn3
  rw [hzc, hi3] at hr
  simp only [Int.toNat_natCast, Nat.mul_one] at hr
  unfold Oper.wp
  simp only [execOp, hop, hx, hy, hr, Sem.run_bind, Result.andThen_ok, Sem.run_pure, Oper.upon]
  have hown : (w.alloc (.cells (madeCells #[z] n) e)).ownsRow B e 1 (.slice (some ⟨w.heap.size, 0, none⟩) n n) n (madeCells #[z] n).toList := World.ownsRow_lit w _ n hB hn2 (by rw [size_madeCells]; omega)
  have key := h w.heap.size n (List.replicate n d) (w.alloc (.cells (madeCells #[z] n) e)) rfl ?_ (Nat.le_refl _) (by simp) ((Below.refl _ _).alloc (Nat.le_refl _) _)
  · simp only [List.length_replicate] at key
    exact hK _ _ key
  · refine ⟨(madeCells #[z] n).toList, ?_, fun j u hj => ?_⟩
    · rw [hs1]; simpa using hown
    · rw [hs1, toList_madeCells_one]
      have hjn : j < n := by
        by_cases e : j < n
        · exact e
        · rw [List.getElem?_eq_none (by simp; omega)] at hj; simp at hj
      simp [hjn] at hj
      subst hj
      have : ((List.replicate n z).drop (j * 1)).take 1 = [z] := by
        rw [Nat.mul_one, List.drop_replicate, List.take_replicate]
        have : min 1 (n - j) = 1 := by omega
        rw [this]; rfl
      rw [this]
      exact hz _

/-- Where append leaves its row: in the old block, or in the next new one. -/
theorem append_block {base : Nat} {t ty e : TypeId} {i : TypeInfo} {z : Value} {size bytes : Nat} (ht : P.underlying t = some (.slice e)) (hi : P.info? e = some i) (hz : i.zero = some z)
    (hsize : i.size = size) (hby : i.bytes = bytes) {v : Value} {n : Nat} {xs : List Value} (hown : w.ownsRow base e size v n xs)
    {a : Addr} {m c : Nat} {news : List Value} (hl : news.length = m * size) (hnews : ∀ j u, news[j]? = some u → w.cell? (a.add j) = some u) (h1 : ∀ u ∈ news, u.oneCell' = true)
    (h63 : n + m ≤ maxLen) (hbytes : (n + m) * bytes ≤ 140737488355328) {v' : Value} {w' : World} (hr : (Builtin.append_ #[t, t] ty #[v, .slice (some a) m c]).run P w = .ok v' w') :
    v'.ownBlock = v.ownBlock ∨ v'.ownBlock = some w.heap.size := by
  subst hsize
  subst hby
  have hsmall : n + m ≤ 9223372036854775807 := by simp only [maxLen] at h63; omega
  rcases hown.2 with ⟨rfl, rfl⟩ | ⟨g, cap, cur, rfl, hbg, hg, hnc, hcm, hcs, htake⟩
  · by_cases hm : m = 0
    · subst hm
      have hn : news = [] := List.eq_nil_of_length_eq_zero (by simpa using hl)
      subst hn
      left
      have : (Builtin.append_ #[t, t] ty #[.slice none 0 0, .slice (some a) 0 c]).run P w = .ok (.slice none 0 0) w := by
        simp [Builtin.append_, run_underlying ht, sizeOf, typeInfo, hi, Builtin.lenOf, Builtin.firstCells, loadCells, loadCellsFrom]
      rw [this] at hr
      simp only [Result.ok.injEq] at hr
      rw [← hr.1]
    · have hr2 := run_append_nil (P := P) w t ty e i z ht hi hz a m c news hl hnews (by omega) (by omega) (by have hb := hbytes; simp only [Nat.zero_add] at hb; omega)
      rw [hr2] at hr
      simp only [Result.ok.injEq] at hr
      right
      rw [← hr.1]
      rfl
  · by_cases hroom : n + m ≤ cap
    · have hfit : n * i.size + news.length ≤ cur.size := by rw [hl, hcs, ← Nat.add_mul]; exact Nat.mul_le_mul_right _ hroom
      have hr2 := run_append_room (P := P) w t ty e i ht hi g n cap cur hg a m c news hl hnews h1 hroom hfit
      rw [hr2] at hr
      simp only [Result.ok.injEq] at hr
      left
      rw [← hr.1]
      rfl
    · have holds : ∀ j u, xs[j]? = some u → w.cell? ((⟨g, 0, none⟩ : Addr).add j) = some u := hown.cells (g := g) rfl
      have hr2 := run_append_grow (P := P) w t ty e i z ht hi hz ⟨g, 0, none⟩ n cap xs hown.1 holds a m c news hl hnews (by omega) (by omega) (growslice_fits (by omega) hbytes)
      rw [hr2] at hr
      simp only [Result.ok.injEq] at hr
      right
      rw [← hr.1]
      rfl

/-- append(s, x): one element; the new row's block is the old one or a new one. M' may name that block besides. -/
theorem wp_push2 {K : Act → World → Prop} (s x : Operand) (t : TypeId) (hop : o.op = .call { callee := .builtin .append, args := #[s, x], argTypes := #[t, t] })
    (e : TypeId) (z : Value) (size bytes : Nat) (ht : P.underlying t = some (.slice e)) (hi : (P.info? e).map (fun i => (i.zero, i.size, i.bytes)) = some (some z, size, bytes)) (hzs : z.cells.size = size) (hsz : 0 < size)
    (B : Nat) (M : Nat → Prop) (v : Value) (l : List α) (hs : a.eval s = v) (hsA : GR.sz α = size) (hown : Ow B M w e v l) (hM : ∀ k, v.ownBlock = some k → M k)
    (ad : Addr) (c : Nat) (news : List Value) (y : α) (hx : a.eval x = .slice (some ad) 1 c) (hy : GR.rep M w news y) (hnews : ∀ j u, news[j]? = some u → w.cell? (ad.add j) = some u) (h1 : ∀ u ∈ news, u.oneCell' = true)
    (hlen : (l.length + 1) * bytes ≤ 140737488355328) (hlen2 : l.length + 1 ≤ maxLen) (hB : B ≤ w.heap.size)
    (h : ∀ (a' : Option Addr) (c' : Nat) (l' : List α) (w' : World), Hid (l' = l ++ [y]) → Ow B (fun k => M k ∨ k = w.heap.size) w' e (.slice a' l'.length c') l' → Hid (∀ k, (Value.slice a' l'.length c').ownBlock = some k → (v.ownBlock = some k ∨ k = w.heap.size) ∧ k < w'.heap.size) →
      w.grownBy w' v.ownBlock → K (a.put o.dst (.slice a' l'.length c')) w') : o.wp P a w K Q := by
  obtain ⟨i, hi1, hi2, hi3, hi4⟩ := info_parts hi
  obtain ⟨xs, hr, hrep⟩ := hown
  subst hsA
  have hnl : news.length = 1 * GR.sz α := by rw [GR.len hy]; omega
  obtain ⟨v', w', hrun, ho, hgr, _⟩ := run_append_own (P := P) w B t o.type e i z (GR.sz α) bytes ht hi1 hi2 hi3 hi4 hzs hsz v l.length xs hr ad 1 c news hnl hnews h1 hlen2 hlen hB
  have hblk := append_block ht hi1 hi2 hi3 hi4 hr hnl hnews h1 hlen2 hlen hrun
  have he : Ext M (fun k => M k ∨ k = w.heap.size) w w' := ⟨hgr.size, fun k hk hm => hgr.block k hk (fun e => hm (hM k e.symm)), fun k hk hm => hm.elim id (fun e => by omega)⟩
  have hn : GR.rep (fun k => M k ∨ k = w.heap.size) w' news y := GR.ext he hy
  have hpush : Ow B (fun k => M k ∨ k = w.heap.size) w' e v' (l ++ [y]) := Ow.push hr hrep he ho hn
  obtain ⟨a', c', hv, _, _⟩ := hpush.shape
  have hb2 : ∀ k, v'.ownBlock = some k → (v.ownBlock = some k ∨ k = w.heap.size) ∧ k < w'.heap.size := by
    intro k hk
    refine ⟨?_, (hpush.lt k hk).2⟩
    rcases hblk with e | e
    · exact .inl (e ▸ hk)
    · exact .inr (by rw [e] at hk; simpa using hk.symm)
  rw [hv] at hpush hb2
  unfold Oper.wp execOp
  simp only [hop, resolve, invoke, builtin, Sem.run_bind, Sem.run_pure, Result.andThen_ok, List.map_toArray, List.map_cons, List.map_nil, hs, hx, hrun]
  show K (a.put o.dst v') w'
  rw [hv]
  exact h a' c' _ w' rfl hpush hb2 hgr

theorem wpList_push2 (hg : o.guard = none) (s x : Operand) (t : TypeId) (hop : o.op = .call { callee := .builtin .append, args := #[s, x], argTypes := #[t, t] })
    (e : TypeId) (z : Value) (size bytes : Nat) (ht : P.underlying t = some (.slice e)) (hi : (P.info? e).map (fun i => (i.zero, i.size, i.bytes)) = some (some z, size, bytes)) (hzs : z.cells.size = size) (hsz : 0 < size)
    (B : Nat) (M : Nat → Prop) (v : Value) (l : List α) (hs : a.eval s = v) (hsA : GR.sz α = size) (hown : Ow B M w e v l) (hM : ∀ k, v.ownBlock = some k → M k)
    (ad : Addr) (c : Nat) (news : List Value) (y : α) (hx : a.eval x = .slice (some ad) 1 c) (hy : GR.rep M w news y) (hnews : ∀ j u, news[j]? = some u → w.cell? (ad.add j) = some u) (h1 : ∀ u ∈ news, u.oneCell' = true)
    (hlen : (l.length + 1) * bytes ≤ 140737488355328) (hlen2 : l.length + 1 ≤ maxLen) (hB : B ≤ w.heap.size)
    (h : ∀ (a' : Option Addr) (c' : Nat) (l' : List α) (w' : World), Hid (l' = l ++ [y]) → Ow B (fun k => M k ∨ k = w.heap.size) w' e (.slice a' l'.length c') l' → Hid (∀ k, (Value.slice a' l'.length c').ownBlock = some k → (v.ownBlock = some k ∨ k = w.heap.size) ∧ k < w'.heap.size) →
      w.grownBy w' v.ownBlock → wpList P ops Q rest (a.put o.dst (.slice a' l'.length c')) w') : wpList P ops Q (o :: rest) a w :=
  wpList_plain hg fun _ hK => wp_push2 s x t hop e z size bytes ht hi hzs hsz B M v l hs hsA hown hM ad c news y hx hy hnews h1 hlen hlen2 hB fun a' c' l' w' h2 h3 h4 h5 => hK _ _ (h a' c' l' w' h2 h3 h4 h5)

/-- append(s, x): one element. -/
theorem wpList_push (hg : o.guard = none) (s x : Operand) (t : TypeId) (hop : o.op = .call { callee := .builtin .append, args := #[s, x], argTypes := #[t, t] })
    (e : TypeId) (z : Value) (size bytes : Nat) (ht : P.underlying t = some (.slice e)) (hi : (P.info? e).map (fun i => (i.zero, i.size, i.bytes)) = some (some z, size, bytes)) (hzs : z.cells.size = size) (hsz : 0 < size)
    (B : Nat) (M : Nat → Prop) (v : Value) (l : List α) (hs : a.eval s = v) (hsA : GR.sz α = size) (hown : Ow B M w e v l) (hM : ∀ k, v.ownBlock = some k → M k)
    (ad : Addr) (c : Nat) (news : List Value) (y : α) (hx : a.eval x = .slice (some ad) 1 c) (hy : GR.rep M w news y) (hnews : ∀ j u, news[j]? = some u → w.cell? (ad.add j) = some u) (h1 : ∀ u ∈ news, u.oneCell' = true)
    (hlen : (l.length + 1) * bytes ≤ 140737488355328) (hlen2 : l.length + 1 ≤ maxLen) (hB : B ≤ w.heap.size)
    (h : ∀ (a' : Option Addr) (c' : Nat) (l' : List α) (w' : World), Hid (l' = l ++ [y]) → Ow B M w' e (.slice a' l'.length c') l' → w.grownBy w' v.ownBlock →
      wpList P ops Q rest (a.put o.dst (.slice a' l'.length c')) w') : wpList P ops Q (o :: rest) a w := by
  obtain ⟨i, hi1, hi2, hi3, hi4⟩ := info_parts hi
  obtain ⟨xs, hr, hrep⟩ := hown
  subst hsA
  refine wpList_append_own w hg s x t hop B e i z (GR.sz α) bytes ht hi1 hi2 hi3 hi4 hzs hsz v l.length xs hs hr ad 1 c news hx (by rw [GR.len hy]; omega) hnews h1 hlen2 hlen hB ?_
  intro v' w' ho hgr hiff
  have he : Ext M M w w' := Ext.grownBy hgr hM
  have hn : GR.rep M w' news y := GR.ext he hy
  have hpush : Ow B M w' e v' (l ++ [y]) := Ow.push hr hrep he ho hn
  obtain ⟨a', c', hv, _, _⟩ := hpush.shape
  rw [hv]
  rw [hv] at hpush
  exact h a' c' _ w' rfl hpush hgr

/-- append(s, x): one number. -/
theorem wpList_push_i {l : List Int} {s x : Operand} {t e : TypeId} {B : Nat} {v : Value} {g : Nat} {c : Nat} {y : Int} (hg : o.guard = none) (hop : o.op = .call { callee := .builtin .append, args := #[s, x], argTypes := #[t, t] })
    (ht : P.underlying t = some (.slice e)) (hi : (P.info? e).map (fun i => (i.zero, i.size, i.bytes)) = some (some (.int .i64 0), 1, 8))
    (hs : a.eval s = v) (hx : a.eval x = .slice (some ⟨g, 0, none⟩) 1 c) (hown : Ow B (fun k => B ≤ k) w e v l) (hnew : w.cell? ⟨g, 0, none⟩ = some (.int .i64 y)) (hy : i64 y)
    (hlen : l.length < 1000000000000) (hB : B ≤ w.heap.size)
    (h : ∀ (a' : Option Addr) (c' : Nat) (l' : List Int) (w' : World), Hid (l' = l ++ [y]) → Ow B (fun k => B ≤ k) w' e (.slice a' l'.length c') l' → Below B w w' →
      wpList P ops Q rest (a.put o.dst (.slice a' l'.length c')) w') : wpList P ops Q (o :: rest) a w := by
  refine wpList_push hg s x t hop e (.int .i64 0) 1 8 ht hi rfl (by decide) B (fun k => B ≤ k) v l hs rfl hown (fun k hk => (hown.lt k hk).1) ⟨g, 0, none⟩ c [.int .i64 y] y hx ⟨rfl, hy⟩ ?_ ?_ (by omega) (by unfold maxLen; omega) hB ?_
  · intro j u hj
    match j, hj with
    | 0, hj => simp at hj; subst hj; simpa [Addr.add] using hnew
  · intro u hu; simp at hu; subst hu; rfl
  · intro a' c' l' w' h1 h2 h3
    exact h a' c' l' w' h1 h2 ((Below.refl _ _).grown h3 hB (fun k hk => (hown.lt k hk).1))

/-- make([]int, n). -/
theorem wpList_mk_i {x : Operand} {t e : TypeId} {B n : Nat} (hg : o.guard = none) (hop : o.op = .makeSlice t x x) (ht : P.underlying t = some (.slice e))
    (hi : (P.info? e).map (fun i => (i.zero, i.size, i.bytes)) = some (some (.int .i64 0), 1, 8)) (hx : a.eval x = .int .i64 n) (hn : n < 1000000000000) (hB : B ≤ w.heap.size)
    (h : ∀ (g c : Nat) (l : List Int) (w' : World), Hid (l = List.replicate n 0) → Ow B (fun k => B ≤ k) w' e (.slice (some ⟨g, 0, none⟩) l.length c) l → Below w.heap.size w w' → w.heap.size ≤ g →
      wpList P ops Q rest (a.put o.dst (.slice (some ⟨g, 0, none⟩) l.length c)) w') : wpList P ops Q (o :: rest) a w :=
  wpList_mk hg x x t hop e (.int .i64 0) 8 ht hi rfl B (fun k => B ≤ k) 0 rfl (fun _ => rep_int (by unfold i64; omega)) n hx hx (by omega) (by unfold maxLen; omega) hB
    fun g c l w' h1 h2 h3 _ h5 => h g c l w' h1 h2 h5 h3

/-- make([]bool, n). -/
theorem wpList_mk_b {x : Operand} {t e : TypeId} {B n : Nat} (hg : o.guard = none) (hop : o.op = .makeSlice t x x) (ht : P.underlying t = some (.slice e))
    (hi : (P.info? e).map (fun i => (i.zero, i.size, i.bytes)) = some (some (.bool false), 1, 1)) (hx : a.eval x = .int .i64 n) (hn : n < 1000000000000) (hB : B ≤ w.heap.size)
    (h : ∀ (g c : Nat) (l : List Bool) (w' : World), Hid (l = List.replicate n false) → Ow B (fun k => B ≤ k) w' e (.slice (some ⟨g, 0, none⟩) l.length c) l → Below w.heap.size w w' → w.heap.size ≤ g →
      wpList P ops Q rest (a.put o.dst (.slice (some ⟨g, 0, none⟩) l.length c)) w') : wpList P ops Q (o :: rest) a w :=
  wpList_mk hg x x t hop e (.bool false) 1 ht hi rfl B (fun k => B ≤ k) false rfl (fun _ => rep_bool) n hx hx (by omega) (by unfold maxLen; omega) hB
    fun g c l w' h1 h2 h3 _ h5 => h g c l w' h1 h2 h5 h3

/-- append(s, row): one row. -/
theorem wpList_push_row {rows : List (List Int)} {r : List Int} {s x : Operand} {t e : TypeId} {B : Nat} {M : Nat → Prop} {v : Value} {g c : Nat} {ar : Option Addr} {cr : Nat} (hg : o.guard = none) (hop : o.op = .call { callee := .builtin .append, args := #[s, x], argTypes := #[t, t] })
    (ht : P.underlying t = some (.slice e)) (hi : (P.info? e).map (fun i => (i.zero, i.size, i.bytes)) = some (some (.slice none 0 0), 1, 24))
    (hs : a.eval s = v) (hx : a.eval x = .slice (some ⟨g, 0, none⟩) 1 c) (hown : Ow B M w e v rows) (hM : ∀ k, v.ownBlock = some k → M k) (hnew : w.cell? ⟨g, 0, none⟩ = some (.slice ar r.length cr)) (hy : Sl M w ar cr r)
    (hlen : rows.length < 1000000000000) (hB : B ≤ w.heap.size)
    (h : ∀ (a' : Option Addr) (c' : Nat) (l' : List (List Int)) (w' : World), Hid (l' = rows ++ [r]) → Ow B (fun k => M k ∨ k = w.heap.size) w' e (.slice a' l'.length c') l' → Hid (∀ k, (Value.slice a' l'.length c').ownBlock = some k → (v.ownBlock = some k ∨ k = w.heap.size) ∧ k < w'.heap.size) →
      w.grownBy w' v.ownBlock → wpList P ops Q rest (a.put o.dst (.slice a' l'.length c')) w') : wpList P ops Q (o :: rest) a w := by
  refine wpList_push2 hg s x t hop e (.slice none 0 0) 1 24 ht hi rfl (by decide) B M v rows hs rfl hown hM ⟨g, 0, none⟩ c [.slice ar r.length cr] r hx (rep_slice hy) ?_ ?_ (by omega) (by unfold maxLen; omega) hB h
  · intro j u hj
    match j, hj with
    | 0, hj => simp at hj; subst hj; simpa [Addr.add] using hnew
  · intro u hu; simp at hu; subst hu; rfl

/-- append(s, row): one row. -/
theorem wp_push_row {K : Act → World → Prop} {rows : List (List Int)} {r : List Int} {s x : Operand} {t e : TypeId} {B : Nat} {M : Nat → Prop} {v : Value} {g c : Nat} {ar : Option Addr} {cr : Nat} (hop : o.op = .call { callee := .builtin .append, args := #[s, x], argTypes := #[t, t] })
    (ht : P.underlying t = some (.slice e)) (hi : (P.info? e).map (fun i => (i.zero, i.size, i.bytes)) = some (some (.slice none 0 0), 1, 24))
    (hs : a.eval s = v) (hx : a.eval x = .slice (some ⟨g, 0, none⟩) 1 c) (hown : Ow B M w e v rows) (hM : ∀ k, v.ownBlock = some k → M k) (hnew : w.cell? ⟨g, 0, none⟩ = some (.slice ar r.length cr)) (hy : Sl M w ar cr r)
    (hlen : rows.length < 1000000000000) (hB : B ≤ w.heap.size)
    (h : ∀ (a' : Option Addr) (c' : Nat) (l' : List (List Int)) (w' : World), Hid (l' = rows ++ [r]) → Ow B (fun k => M k ∨ k = w.heap.size) w' e (.slice a' l'.length c') l' → Hid (∀ k, (Value.slice a' l'.length c').ownBlock = some k → (v.ownBlock = some k ∨ k = w.heap.size) ∧ k < w'.heap.size) →
      w.grownBy w' v.ownBlock → K (a.put o.dst (.slice a' l'.length c')) w') : o.wp P a w K Q := by
  refine wp_push2 s x t hop e (.slice none 0 0) 1 24 ht hi rfl (by decide) B M v rows hs rfl hown hM ⟨g, 0, none⟩ c [.slice ar r.length cr] r hx (rep_slice hy) ?_ ?_ (by omega) (by unfold maxLen; omega) hB h
  · intro j u hj
    match j, hj with
    | 0, hj => simp at hj; subst hj; simpa [Addr.add] using hnew
  · intro u hu; simp at hu; subst hu; rfl

/-- append(s, l...): all of a list of numbers. -/
theorem wpList_app_ints {l0 l1 : List Int} {s x : Operand} {t e : TypeId} {B : Nat} {M : Nat → Prop} {v : Value} {ad : Addr} {c : Nat} (hg : o.guard = none) (hop : o.op = .call { callee := .builtin .append, args := #[s, x], argTypes := #[t, t] })
    (ht : P.underlying t = some (.slice e)) (hi : (P.info? e).map (fun i => (i.zero, i.size, i.bytes)) = some (some (.int .i64 0), 1, 8))
    (hs : a.eval s = v) (hx : a.eval x = .slice (some ad) l1.length c) (hown : Ow B (fun k => B ≤ k) w e v l0) (hsrc : Sl M w (some ad) c l1)
    (hlen : l0.length + l1.length < 1000000000000) (hB : B ≤ w.heap.size)
    (h : ∀ (a' : Option Addr) (c' : Nat) (l' : List Int) (w' : World), Hid (l' = l0 ++ l1) → Ow B (fun k => B ≤ k) w' e (.slice a' l'.length c') l' → Below B w w' →
      wpList P ops Q rest (a.put o.dst (.slice a' l'.length c')) w') : wpList P ops Q (o :: rest) a w := by
  obtain ⟨i, hi1, hi2, hi3, hi4⟩ := info_parts hi
  have hown0 := hown
  obtain ⟨xs, hr, hrep⟩ := hown
  refine wpList_append_own w hg s x t hop B e i (.int .i64 0) 1 8 ht hi1 hi2 hi3 hi4 rfl (by decide) v l0.length xs hs hr ad l1.length c (l1.map (.int .i64)) hx (by simp) ?_ ?_ (by unfold maxLen; omega) (by omega) hB ?_
  · intro j u hj
    rw [List.getElem?_map] at hj
    obtain ⟨y, hy, rfl⟩ := Option.map_eq_some_iff.1 hj
    have hjl : j < l1.length := by
      by_cases e : j < l1.length
      · exact e
      · rw [List.getElem?_eq_none (by omega)] at hy; simp at hy
    obtain ⟨b, off, z, had, hc, hz, _⟩ := hsrc.at_int hjl
    have had' : ad = ⟨b, off, none⟩ := by simpa using had
    have hz' : y = z := by have := hz.out; rw [hy] at this; simpa using this
    rw [had', hz', Addr.add]
    split
    · rename_i h0; subst h0; simpa using hc
    · exact hc
  · intro u hu
    obtain ⟨y, _, rfl⟩ := List.mem_map.1 hu
    rfl
  · intro v' w' ho hgr hiff
    have hl0 : xs.length = l0.length := by have := hr.1; simpa [GR.sz] using this
    have hpush : Ow B (fun k => B ≤ k) w' e v' (l0 ++ l1) := by
      refine ⟨xs ++ l1.map (Value.int .i64), by simpa [GR.sz] using ho, fun j y hj => ?_⟩
      by_cases hlt : j < l0.length
      · rw [List.getElem?_append_left hlt] at hj
        have := hrep j y hj
        simp only [GR.sz, Nat.mul_one] at this ⊢
        rw [List.drop_append_of_le_length (by omega), List.take_append_of_le_length (by simp; omega)]
        exact this
      · rw [List.getElem?_append_right (by omega)] at hj
        have hjl : j - l0.length < l1.length := by
          by_cases e : j - l0.length < l1.length
          · exact e
          · rw [List.getElem?_eq_none (by omega)] at hj; simp at hj
        obtain ⟨b, off, z, _, _, hz, hzi⟩ := hsrc.at_int hjl
        have hz' : y = z := by have := hz.out; rw [hj] at this; simpa using this
        subst hz'
        simp only [GR.sz, Nat.mul_one]
        have e1 : ((xs ++ l1.map (Value.int .i64)).drop j).take 1 = [.int .i64 y] := by
          apply List.ext_getElem?
          intro q
          rcases q with _ | q
          · rw [List.getElem?_take, if_pos (by omega), List.getElem?_drop, List.getElem?_append_right (by omega), List.getElem?_map, hl0, Nat.add_zero, hj]
            rfl
          · rw [List.getElem?_take, if_neg (by omega)]; rfl
        rw [e1]
        exact ⟨rfl, hzi.out⟩
    obtain ⟨a', c', hv, _, _⟩ := hpush.shape
    rw [hv]
    rw [hv] at hpush
    exact h a' c' _ w' rfl hpush ((Below.refl _ _).grown hgr hB (fun k hk => (hown0.lt k hk).1))

/-- append(s, l...): all of a list of numbers. -/
theorem wp_app_ints {K : Act → World → Prop} {l0 l1 : List Int} {s x : Operand} {t e : TypeId} {B : Nat} {M : Nat → Prop} {v : Value} {ad : Addr} {c : Nat} (hop : o.op = .call { callee := .builtin .append, args := #[s, x], argTypes := #[t, t] })
    (ht : P.underlying t = some (.slice e)) (hi : (P.info? e).map (fun i => (i.zero, i.size, i.bytes)) = some (some (.int .i64 0), 1, 8))
    (hs : a.eval s = v) (hx : a.eval x = .slice (some ad) l1.length c) (hown : Ow B (fun k => B ≤ k) w e v l0) (hsrc : Sl M w (some ad) c l1)
    (hlen : l0.length + l1.length < 1000000000000) (hB : B ≤ w.heap.size)
    (h : ∀ (a' : Option Addr) (c' : Nat) (l' : List Int) (w' : World), Hid (l' = l0 ++ l1) → Ow B (fun k => B ≤ k) w' e (.slice a' l'.length c') l' → Below B w w' →
      K (a.put o.dst (.slice a' l'.length c')) w') : o.wp P a w K Q := by
  obtain ⟨i, hi1, hi2, hi3, hi4⟩ := info_parts hi
  have hown0 := hown
  obtain ⟨xs, hr, hrep⟩ := hown
  refine wp_append_own (w := w) s x t hop B e i (.int .i64 0) 1 8 ht hi1 hi2 hi3 hi4 rfl (by decide) v l0.length xs hs hr ad l1.length c (l1.map (.int .i64)) hx (by simp) ?_ ?_ (by unfold maxLen; omega) (by omega) hB ?_
  · intro j u hj
    rw [List.getElem?_map] at hj
    obtain ⟨y, hy, rfl⟩ := Option.map_eq_some_iff.1 hj
    have hjl : j < l1.length := by
      by_cases e : j < l1.length
      · exact e
      · rw [List.getElem?_eq_none (by omega)] at hy; simp at hy
    obtain ⟨b, off, z, had, hc, hz, _⟩ := hsrc.at_int hjl
    have had' : ad = ⟨b, off, none⟩ := by simpa using had
    have hz' : y = z := by have := hz.out; rw [hy] at this; simpa using this
    rw [had', hz', Addr.add]
    split
    · rename_i h0; subst h0; simpa using hc
    · exact hc
  · intro u hu
    obtain ⟨y, _, rfl⟩ := List.mem_map.1 hu
    rfl
  · intro v' w' ho hgr hiff
    have hl0 : xs.length = l0.length := by have := hr.1; simpa [GR.sz] using this
    have hpush : Ow B (fun k => B ≤ k) w' e v' (l0 ++ l1) := by
      refine ⟨xs ++ l1.map (Value.int .i64), by simpa [GR.sz] using ho, fun j y hj => ?_⟩
      by_cases hlt : j < l0.length
      · rw [List.getElem?_append_left hlt] at hj
        have := hrep j y hj
        simp only [GR.sz, Nat.mul_one] at this ⊢
        rw [List.drop_append_of_le_length (by omega), List.take_append_of_le_length (by simp; omega)]
        exact this
      · rw [List.getElem?_append_right (by omega)] at hj
        have hjl : j - l0.length < l1.length := by
          by_cases e : j - l0.length < l1.length
          · exact e
          · rw [List.getElem?_eq_none (by omega)] at hj; simp at hj
        obtain ⟨b, off, z, _, _, hz, hzi⟩ := hsrc.at_int hjl
        have hz' : y = z := by have := hz.out; rw [hj] at this; simpa using this
        subst hz'
        simp only [GR.sz, Nat.mul_one]
        have e1 : ((xs ++ l1.map (Value.int .i64)).drop j).take 1 = [.int .i64 y] := by
          apply List.ext_getElem?
          intro q
          rcases q with _ | q
          · rw [List.getElem?_take, if_pos (by omega), List.getElem?_drop, List.getElem?_append_right (by omega), List.getElem?_map, hl0, Nat.add_zero, hj]
            rfl
          · rw [List.getElem?_take, if_neg (by omega)]; rfl
        rw [e1]
        exact ⟨rfl, hzi.out⟩
    obtain ⟨a', c', hv, _, _⟩ := hpush.shape
    rw [hv]
    rw [hv] at hpush
    exact h a' c' _ w' rfl hpush ((Below.refl _ _).grown hgr hB (fun k hk => (hown0.lt k hk).1))

end
end Go.Proofs.Ytlgdijgfphedpaa
