/- The law's call at right texts. Plain laws: what ValueTexts asks of a right text. Rows of rows built in a region that draws its order. -/
import Derived.Test.YtmnmnnocgimcpaaGreatDoorKh
import Derived.Test.YtmnmnnocgimcpaaGreatDoorKg
import Derived.Test.YtmnmnnocgimcpaaGreatDoorKP
import Derived.Test.YtmnmnnocgimcpaaGreatDoorKE
import Derived.Test.YtmnmnnocgimcpaaGreatDoorKe5
import Derived.Test.YtmnmnnocgimcpaaGreatDoorRgi
namespace Go.Proofs.YtmnmnnocgimcpaaGreatDoor
open Go.RowKit
def sI (t : ByteArray) : It := ⟨3, 0, t, 0⟩
def nI (n : Int) : It := ⟨2, n, ⟨#[]⟩, 0⟩
def tI (b : Bool) : It := ⟨4, bN b, ⟨#[]⟩, 0⟩
/-- rows of items that are handed over -/
def ArgsR (w : World) (g : Nat) (rows : List (List It)) : Prop := ∃ ls : List Lst, ls.map Lst.l = rows ∧ Rd w (some ⟨g, 0, none⟩) (ls.map Lst.v) ∧ ∀ x ∈ ls, RdI w x.a x.l
theorem ArgsR.keep {w w' : World} {g : Nat} {rows : List (List It)} (h : ArgsR w g rows) (hb : Below w.heap.size w w') : ArgsR w' g rows := by
  obtain ⟨ls, h1, h2, h3⟩ := h
  exact ⟨ls, h1, h2.keep hb, fun x hx => (h3 x hx).keep hb⟩
theorem ArgsR.new1 {w : World} {a : Option Addr} {l : List It} {n c : Nat} (h : RdI w a l) (hn : n = l.length) : ArgsR (w.alloc (.cells #[.slice a n c] 25)) w.heap.size [l] := by
  subst hn
  exact ⟨[⟨a, l, c⟩], rfl, Rd.new w 25 [.slice a l.length c], fun x hx => by rw [List.mem_singleton] at hx; subst hx; exact h.alloc _⟩
theorem ArgsR.new2 {w : World} {a a2 : Option Addr} {l l2 : List It} {n c n2 c2 : Nat} (h : RdI w a l) (hn : n = l.length) (h2 : RdI w a2 l2) (hn2 : n2 = l2.length) : ArgsR (w.alloc (.cells #[.slice a n c, .slice a2 n2 c2] 25)) w.heap.size [l, l2] := by
  subst hn hn2
  refine ⟨[⟨a, l, c⟩, ⟨a2, l2, c2⟩], rfl, Rd.new w 25 [.slice a l.length c, .slice a2 l2.length c2], fun x hx => ?_⟩
  simp only [List.mem_cons, List.not_mem_nil, or_false] at hx
  rcases hx with rfl | rfl
  · exact h.alloc _
  · exact h2.alloc _
theorem ArgsR.new3 {w : World} {a a2 a3 : Option Addr} {l l2 l3 : List It} {n c n2 c2 n3 c3 : Nat} (h : RdI w a l) (hn : n = l.length) (h2 : RdI w a2 l2) (hn2 : n2 = l2.length) (h3 : RdI w a3 l3) (hn3 : n3 = l3.length) : ArgsR (w.alloc (.cells #[.slice a n c, .slice a2 n2 c2, .slice a3 n3 c3] 25)) w.heap.size [l, l2, l3] := by
  subst hn hn2 hn3
  refine ⟨[⟨a, l, c⟩, ⟨a2, l2, c2⟩, ⟨a3, l3, c3⟩], rfl, Rd.new w 25 [.slice a l.length c, .slice a2 l2.length c2, .slice a3 l3.length c3], fun x hx => ?_⟩
  simp only [List.mem_cons, List.not_mem_nil, or_false] at hx
  rcases hx with rfl | rfl | rfl
  · exact h.alloc _
  · exact h2.alloc _
  · exact h3.alloc _
/-- what start-up laid for the functions -/
structure EnvC (m : Int) (w : World) : Prop where
  e : Env w
  m : w.cell? ⟨1, 0, none⟩ = some (.int .i64 m)
  c : Counts w
theorem EnvC.keep {m : Int} {w w' : World} (h : EnvC m w) (hb : Below w.heap.size w w') : EnvC m w' := ⟨h.e.keep hb, cell_keep hb h.m, h.c.keep hb⟩
/-- the law's call, of rows: it answers X -/
def LC (m : Int) (nm : ByteArray) (k : Nat) (rows : List (List It)) (X : It) : Prop := ∀ (W : World) (g c : Nat), EnvC m W → ArgsR W g rows →
  Calls Tryz.prog 16 #[.string nm, .slice (some ⟨g, 0, none⟩) k c] W fun e w' => e = .returned (itA X) ∧ Below W.heap.size W w'
theorem okas_of {W : World} {ls : List Lst} {rows : List (List It)} (hl : ls.map Lst.l = rows) (hr : ∀ x ∈ ls, RdI W x.a x.l) (h1 : ∀ l ∈ rows, l.length ≤ 1) (h2 : ∀ l ∈ rows, ∀ y ∈ l, y.text.size ≤ 100000) : OkAs W ls := by
  intro x hx
  have hm : x.l ∈ rows := by rw [← hl]; exact List.mem_map.2 ⟨x, hx, rfl⟩
  exact ⟨hr x hx, fun y hy => Nat.le_trans (h2 _ hm y hy) (by decide), by have := h1 _ hm; omega⟩
theorem lc_of {m : Int} {nm : ByteArray} {k : Nat} {rows : List (List It)} {X : It} (v : List It × Int) (hv : v.1.length ≤ 1) (hX : callI v = X)
    (h1 : ∀ l ∈ rows, l.length ≤ 1) (h2 : ∀ l ∈ rows, ∀ y ∈ l, y.text.size ≤ 100000)
    (h : ∀ (W : World) (g c : Nat) (ls : List Lst), EnvC m W → ls.map Lst.l = rows → Rd W (some ⟨g, 0, none⟩) (ls.map Lst.v) → OkAs W ls → Calls Tryz.prog 8 #[.string nm, .slice (some ⟨g, 0, none⟩) k c] W (Res W v.1 v.2)) : LC m nm k rows X := by
  intro W g c he ha
  obtain ⟨ls, hl, hr, hi⟩ := ha
  rw [← hX]
  exact lcall_any nm (some ⟨g, 0, none⟩) k c v W hv fun W' hb => h W' g c ls (he.keep hb) hl (hr.keep hb) (okas_of hl (fun x hx => (hi x hx).keep hb) h1 h2)
theorem okI_str (t : ByteArray) : okI (sI t) = tS t := by simp [okI, sI]
theorem strV_str {t : ByteArray} (h : tS t = true) : strV [sI t] = (t, 0) := by
  unfold strV
  rw [if_pos (by simp [okI_str, h])]
  simp only
  rw [if_pos trivial]; rfl
theorem okI_num (n : Int) : okI (nI n) = true := by
  have : tS ⟨#[]⟩ = true := by decide
  simp [okI, nI, this]
theorem one_of {ls : List Lst} {l : List It} (h : ls.map Lst.l = [l]) : ∃ a c, ls = [⟨a, l, c⟩] := by
  match ls, h with
  | [⟨a, l', c⟩], h =>
    simp only [List.map_cons, List.map_nil, List.cons.injEq, and_true] at h
    subst h; exact ⟨a, c, rfl⟩
theorem two_of {ls : List Lst} {l l2 : List It} (h : ls.map Lst.l = [l, l2]) : ∃ a c a2 c2, ls = [⟨a, l, c⟩, ⟨a2, l2, c2⟩] := by
  match ls, h with
  | [⟨a, l', c⟩, ⟨a2, l2', c2⟩], h =>
    simp only [List.map_cons, List.map_nil, List.cons.injEq, and_true] at h
    obtain ⟨rfl, rfl⟩ := h
    exact ⟨a, c, a2, c2, rfl⟩
theorem three_of {ls : List Lst} {l l2 l3 : List It} (h : ls.map Lst.l = [l, l2, l3]) : ∃ a c a2 c2 a3 c3, ls = [⟨a, l, c⟩, ⟨a2, l2, c2⟩, ⟨a3, l3, c3⟩] := by
  match ls, h with
  | [⟨a, l', c⟩, ⟨a2, l2', c2⟩, ⟨a3, l3', c3⟩], h =>
    simp only [List.map_cons, List.map_nil, List.cons.injEq, and_true] at h
    obtain ⟨rfl, rfl, rfl⟩ := h
    exact ⟨a, c, a2, c2, a3, c3, rfl⟩
theorem callT_one (nm : List UInt8) (f : List ByteArray → List It × Int) (a : Option Addr) (c : Nat) {t : ByteArray} (ht : tS t = true) (hk : knV nm 1 = true) : callT nm f [⟨a, [sI t], c⟩] = f [t] := by
  unfold callT
  rw [if_pos (by simp [rightL, okI_str, ht]), if_pos (c := knV nm [(⟨a, [sI t], c⟩ : Lst)].length = true) hk]
  have he : errS [⟨a, [sI t], c⟩] = 0 := by
    unfold errS
    rw [if_pos (by rw [strV_str ht])]; rfl
  rw [if_pos he]
  unfold txs
  simp only [List.map_cons, List.map_nil, strV_str ht]
theorem callT_two (nm : List UInt8) (f : List ByteArray → List It × Int) (a a2 : Option Addr) (c c2 : Nat) {t u : ByteArray} (ht : tS t = true) (hu : tS u = true) (hk : knV nm 2 = true) : callT nm f [⟨a, [sI t], c⟩, ⟨a2, [sI u], c2⟩] = f [t, u] := by
  unfold callT
  rw [if_pos (by simp [rightL, okI_str, ht, hu]), if_pos (c := knV nm [(⟨a, [sI t], c⟩ : Lst), ⟨a2, [sI u], c2⟩].length = true) hk]
  have he : errS [⟨a, [sI t], c⟩, ⟨a2, [sI u], c2⟩] = 0 := by
    unfold errS
    rw [if_pos (by rw [strV_str ht])]
    unfold errS
    rw [if_pos (by rw [strV_str hu])]; rfl
  rw [if_pos he]
  unfold txs
  simp only [List.map_cons, List.map_nil, strV_str ht, strV_str hu]
theorem joinB_one (t : ByteArray) : joinB ⟨#[]⟩ [t] = t := by
  apply ba_same
  show (Lib.join ([t].map (·.data.toList)) (ByteArray.mk #[]).data.toList).toArray.toList = _
  rw [List.toList_toArray, join_one t]
theorem joinR_one {t : ByteArray} (h : t.size ≤ 65536) : joinR ⟨#[]⟩ [t] = ([sI t], 0) := by
  unfold joinR
  rw [joinB_one, if_neg (by omega)]; rfl
theorem joinB_two (t u : ByteArray) : joinB ⟨#[]⟩ [t, u] = t ++ u := by
  apply ba_same
  show (List.intercalate [] [t.data.toList, u.data.toList]).toArray.toList = _
  rw [List.toList_toArray]
  simp [List.intercalate, ByteArray.data_append]
theorem R_items {ls : List Lst} {rows : List (List It)} (hl : ls.map Lst.l = rows) (h : ∀ l ∈ rows, ∀ y ∈ l, R64 y.num) : ∀ x ∈ ls, ∀ y ∈ x.l, R64 y.num :=
  fun x hx => h _ (by rw [← hl]; exact List.mem_map.2 ⟨x, hx, rfl⟩)
theorem S_items {ls : List Lst} {rows : List (List It)} (hl : ls.map Lst.l = rows) (h : ∀ l ∈ rows, ∀ y ∈ l, y.text.size ≤ 100000) : ∀ x ∈ ls, ∀ y ∈ x.l, y.text.size ≤ 100000 :=
  fun x hx => h _ (by rw [← hl]; exact List.mem_map.2 ⟨x, hx, rfl⟩)
theorem R_zero : R64 0 := by unfold R64; decide
theorem one_str {P : It → Prop} {t : ByteArray} (h : P (sI t)) : ∀ l ∈ [[sI t]], ∀ y ∈ l, P y := by
  intro l hl y hy
  rw [List.mem_singleton] at hl; subst hl
  rw [List.mem_singleton] at hy; subst hy; exact h
theorem two_str {P : It → Prop} {x z : It} (h : P x) (h2 : P z) : ∀ l ∈ [[x], [z]], ∀ y ∈ l, P y := by
  intro l hl y hy
  simp only [List.mem_cons, List.not_mem_nil, or_false] at hl
  rcases hl with rfl | rfl <;> (rw [List.mem_singleton] at hy; subst hy; assumption)
theorem three_str {P : It → Prop} {x z q : It} (h : P x) (h2 : P z) (h3 : P q) : ∀ l ∈ [[x], [z], [q]], ∀ y ∈ l, P y := by
  intro l hl y hy
  simp only [List.mem_cons, List.not_mem_nil, or_false] at hl
  rcases hl with rfl | rfl | rfl <;> (rw [List.mem_singleton] at hy; subst hy; assumption)
theorem len_one {l : List It} {rows : List (List It)} (h : ∀ l ∈ rows, l.length = 1) (hl : l ∈ rows) : l.length ≤ 1 := by rw [h l hl]; exact Nat.le_refl 1
theorem lc_string_length (m : Int) {t : ByteArray} (ht : tS t = true) (hz : t.size ≤ 100000) : LC m ⟨#[115, 116, 114, 105, 110, 103, 45, 108, 101, 110, 103, 116, 104]⟩ 1 [[sI t]] (nI (Lib.runeCount t : Nat)) := by
  have hv : fLength [t] = ([nI (Lib.runeCount t : Nat)], 0) := rfl
  refine lc_of (fLength [t]) (by rw [hv]; simp) (by rw [hv]; rfl) (fun l hl => by rw [List.mem_singleton] at hl; subst hl; simp) (one_str hz) fun W g c ls he hl hr hok => ?_
  have h := callT_string_length (some ⟨g, 0, none⟩) 1 c ls m W he.e he.m he.c hr hok (R_items hl (one_str R_zero)) (S_items hl (one_str hz)) (by rw [← List.length_map, hl]; rfl) (by decide)
  obtain ⟨a, c2, rfl⟩ := one_of hl
  rwa [callT_one _ _ a c2 ht (by decide +kernel)] at h
theorem lc_upper_case (m : Int) {t : ByteArray} (ht : tS t = true) (hz : t.size ≤ 100000) (hx : (mapB upF t).size ≤ 65536) : LC m ⟨#[117, 112, 112, 101, 114, 45, 99, 97, 115, 101]⟩ 1 [[sI t]] (sI (mapB upF t)) := by
  have hv : fUpper [t] = ([sI (mapB upF t)], 0) := joinR_one hx
  refine lc_of (fUpper [t]) (by rw [hv]; simp) (by rw [hv]; rfl) (fun l hl => by rw [List.mem_singleton] at hl; subst hl; simp) (one_str hz) fun W g c ls he hl hr hok => ?_
  have h := callT_upper_case (some ⟨g, 0, none⟩) 1 c ls m W he.e he.m he.c hr hok (R_items hl (one_str R_zero)) (S_items hl (one_str hz)) (by rw [← List.length_map, hl]; rfl) (by decide)
  obtain ⟨a, c2, rfl⟩ := one_of hl
  rwa [callT_one _ _ a c2 ht (by decide +kernel)] at h
theorem lc_lower_case (m : Int) {t : ByteArray} (ht : tS t = true) (hz : t.size ≤ 100000) (hx : (mapB loF t).size ≤ 65536) : LC m ⟨#[108, 111, 119, 101, 114, 45, 99, 97, 115, 101]⟩ 1 [[sI t]] (sI (mapB loF t)) := by
  have hv : fLower [t] = ([sI (mapB loF t)], 0) := joinR_one hx
  refine lc_of (fLower [t]) (by rw [hv]; simp) (by rw [hv]; rfl) (fun l hl => by rw [List.mem_singleton] at hl; subst hl; simp) (one_str hz) fun W g c ls he hl hr hok => ?_
  have h := callT_lower_case (some ⟨g, 0, none⟩) 1 c ls m W he.e he.m he.c hr hok (R_items hl (one_str R_zero)) (S_items hl (one_str hz)) (by rw [← List.length_map, hl]; rfl) (by decide)
  obtain ⟨a, c2, rfl⟩ := one_of hl
  rwa [callT_one _ _ a c2 ht (by decide +kernel)] at h
theorem lc_normalize_space (m : Int) {t : ByteArray} (ht : tS t = true) (hz : t.size ≤ 100000) (hx : (normB t).size ≤ 65536) : LC m ⟨#[110, 111, 114, 109, 97, 108, 105, 122, 101, 45, 115, 112, 97, 99, 101]⟩ 1 [[sI t]] (sI (normB t)) := by
  have hv : fNorm [t] = ([sI (normB t)], 0) := by show joinR _ _ = _; unfold joinR; rw [if_neg (by show ¬ 65536 < (normB t).size; omega)]; rfl
  refine lc_of (fNorm [t]) (by rw [hv]; simp) (by rw [hv]; rfl) (fun l hl => by rw [List.mem_singleton] at hl; subst hl; simp) (one_str hz) fun W g c ls he hl hr hok => ?_
  have h := callT_normalize_space (some ⟨g, 0, none⟩) 1 c ls m W he.e he.m he.c hr hok (R_items hl (one_str R_zero)) (S_items hl (one_str hz)) (by rw [← List.length_map, hl]; rfl) (by decide)
  obtain ⟨a, c2, rfl⟩ := one_of hl
  rwa [callT_one _ _ a c2 ht (by decide +kernel)] at h
theorem lc_concat (m : Int) {t u : ByteArray} (ht : tS t = true) (hu : tS u = true) (hz : t.size ≤ 100000) (hz2 : u.size ≤ 100000) (hx : (t ++ u).size ≤ 65536) : LC m ⟨#[99, 111, 110, 99, 97, 116]⟩ 2 [[sI t], [sI u]] (sI (t ++ u)) := by
  have hv : fConcat [t, u] = ([sI (t ++ u)], 0) := by show joinR _ _ = _; unfold joinR; rw [joinB_two, if_neg (by omega)]; rfl
  refine lc_of (fConcat [t, u]) (by rw [hv]; simp) (by rw [hv]; rfl) (fun l hl => by simp only [List.mem_cons, List.not_mem_nil, or_false] at hl; rcases hl with rfl | rfl <;> simp) (two_str hz hz2) fun W g c ls he hl hr hok => ?_
  have h := callT_concat (some ⟨g, 0, none⟩) 2 c ls m W he.e he.m he.c hr hok (R_items hl (two_str R_zero R_zero)) (S_items hl (two_str hz hz2)) (by rw [← List.length_map, hl]; rfl) (by decide)
  obtain ⟨a, c2, a2, c3, rfl⟩ := two_of hl
  rwa [callT_two _ _ a a2 c2 c3 ht hu (by decide +kernel)] at h
theorem lc_contains (m : Int) {t u : ByteArray} (ht : tS t = true) (hu : tS u = true) (hz : t.size ≤ 100000) (hz2 : u.size ≤ 100000) : LC m ⟨#[99, 111, 110, 116, 97, 105, 110, 115]⟩ 2 [[sI t], [sI u]] (tI (Lib.contains t.data.toList u.data.toList)) := by
  have hv : fContains [t, u] = ([tI (Lib.contains t.data.toList u.data.toList)], 0) := rfl
  refine lc_of (fContains [t, u]) (by rw [hv]; simp) (by rw [hv]; rfl) (fun l hl => by simp only [List.mem_cons, List.not_mem_nil, or_false] at hl; rcases hl with rfl | rfl <;> simp) (two_str hz hz2) fun W g c ls he hl hr hok => ?_
  have h := callT_contains (some ⟨g, 0, none⟩) 2 c ls m W he.e he.m he.c hr hok (R_items hl (two_str R_zero R_zero)) (S_items hl (two_str hz hz2)) (by rw [← List.length_map, hl]; rfl) (by decide)
  obtain ⟨a, c2, a2, c3, rfl⟩ := two_of hl
  rwa [callT_two _ _ a a2 c2 c3 ht hu (by decide +kernel)] at h
theorem lc_starts_with (m : Int) {t u : ByteArray} (ht : tS t = true) (hu : tS u = true) (hz : t.size ≤ 100000) (hz2 : u.size ≤ 100000) : LC m ⟨#[115, 116, 97, 114, 116, 115, 45, 119, 105, 116, 104]⟩ 2 [[sI t], [sI u]] (tI (Lib.hasPrefix t.data.toList u.data.toList)) := by
  have hv : fStarts [t, u] = ([tI (Lib.hasPrefix t.data.toList u.data.toList)], 0) := rfl
  refine lc_of (fStarts [t, u]) (by rw [hv]; simp) (by rw [hv]; rfl) (fun l hl => by simp only [List.mem_cons, List.not_mem_nil, or_false] at hl; rcases hl with rfl | rfl <;> simp) (two_str hz hz2) fun W g c ls he hl hr hok => ?_
  have h := callT_starts_with (some ⟨g, 0, none⟩) 2 c ls m W he.e he.m he.c hr hok (R_items hl (two_str R_zero R_zero)) (S_items hl (two_str hz hz2)) (by rw [← List.length_map, hl]; rfl) (by decide)
  obtain ⟨a, c2, a2, c3, rfl⟩ := two_of hl
  rwa [callT_two _ _ a a2 c2 c3 ht hu (by decide +kernel)] at h
theorem lc_ends_with (m : Int) {t u : ByteArray} (ht : tS t = true) (hu : tS u = true) (hz : t.size ≤ 100000) (hz2 : u.size ≤ 100000) : LC m ⟨#[101, 110, 100, 115, 45, 119, 105, 116, 104]⟩ 2 [[sI t], [sI u]] (tI (Lib.hasSuffix t.data.toList u.data.toList)) := by
  have hv : fEnds [t, u] = ([tI (Lib.hasSuffix t.data.toList u.data.toList)], 0) := rfl
  refine lc_of (fEnds [t, u]) (by rw [hv]; simp) (by rw [hv]; rfl) (fun l hl => by simp only [List.mem_cons, List.not_mem_nil, or_false] at hl; rcases hl with rfl | rfl <;> simp) (two_str hz hz2) fun W g c ls he hl hr hok => ?_
  have h := callT_ends_with (some ⟨g, 0, none⟩) 2 c ls m W he.e he.m he.c hr hok (R_items hl (two_str R_zero R_zero)) (S_items hl (two_str hz hz2)) (by rw [← List.length_map, hl]; rfl) (by decide)
  obtain ⟨a, c2, a2, c3, rfl⟩ := two_of hl
  rwa [callT_two _ _ a a2 c2 c3 ht hu (by decide +kernel)] at h
theorem oneV_num (n : Int) : oneV [nI n] = (n, 0) := rfl
theorem z_num (n : Int) : (nI n).text.size ≤ 100000 := by show (⟨#[]⟩ : ByteArray).size ≤ 100000; decide
theorem lc_sub2 (m : Int) {t : ByteArray} {i : Int} (ht : tS t = true) (hz : t.size ≤ 100000) (hi : R64 i) (hx : (cutB t i i64max).size ≤ 65536) : LC m ⟨#[115, 117, 98, 115, 116, 114, 105, 110, 103]⟩ 2 [[sI t], [nI i]] (sI (cutB t i i64max)) := by
  have hv := joinR_one hx
  refine lc_of (joinR ⟨#[]⟩ [cutB t i i64max]) (by rw [hv]; simp) (by rw [hv]; rfl) (fun l hl => by simp only [List.mem_cons, List.not_mem_nil, or_false] at hl; rcases hl with rfl | rfl <;> simp) (two_str hz (z_num i)) fun W g c ls he hl hr hok => ?_
  have h := callS_any (some ⟨g, 0, none⟩) 2 c ls m W he.e he.m he.c hr hok (R_items hl (two_str R_zero hi)) (S_items hl (two_str hz (z_num i))) (by rw [← List.length_map, hl]; rfl) (by decide)
  obtain ⟨a, c2, a2, c3, rfl⟩ := two_of hl
  have hs : callS [⟨a, [sI t], c2⟩, ⟨a2, [nI i], c3⟩] = joinR ⟨#[]⟩ [cutB t i i64max] := by
    unfold callS
    rw [if_pos (by simp [rightL, okI_str, ht, okI_num]), if_pos (c := knV [115, 117, 98, 115, 116, 114, 105, 110, 103] [(⟨a, [sI t], c2⟩ : Lst), ⟨a2, [nI i], c3⟩].length = true) (show knV [115, 117, 98, 115, 116, 114, 105, 110, 103] 2 = true by decide +kernel)]
    unfold subV
    simp only [strV_str ht, oneV_num]
    rfl
  rwa [hs] at h
theorem lc_sub3 (m : Int) {t : ByteArray} {i j : Int} (ht : tS t = true) (hz : t.size ≤ 100000) (hi : R64 i) (hj : R64 j) (hx : (cutB t i (endV i j)).size ≤ 65536) : LC m ⟨#[115, 117, 98, 115, 116, 114, 105, 110, 103]⟩ 3 [[sI t], [nI i], [nI j]] (sI (cutB t i (endV i j))) := by
  have hv := joinR_one hx
  refine lc_of (joinR ⟨#[]⟩ [cutB t i (endV i j)]) (by rw [hv]; simp) (by rw [hv]; rfl) (fun l hl => by simp only [List.mem_cons, List.not_mem_nil, or_false] at hl; rcases hl with rfl | rfl | rfl <;> simp) (three_str hz (z_num i) (z_num j)) fun W g c ls he hl hr hok => ?_
  have h := callS_any (some ⟨g, 0, none⟩) 3 c ls m W he.e he.m he.c hr hok (R_items hl (three_str R_zero hi hj)) (S_items hl (three_str hz (z_num i) (z_num j))) (by rw [← List.length_map, hl]; rfl) (by decide)
  obtain ⟨a, c2, a2, c3, a3, c4, rfl⟩ := three_of hl
  have hs : callS [⟨a, [sI t], c2⟩, ⟨a2, [nI i], c3⟩, ⟨a3, [nI j], c4⟩] = joinR ⟨#[]⟩ [cutB t i (endV i j)] := by
    unfold callS
    rw [if_pos (by simp [rightL, okI_str, ht, okI_num]), if_pos (c := knV [115, 117, 98, 115, 116, 114, 105, 110, 103] [(⟨a, [sI t], c2⟩ : Lst), ⟨a2, [nI i], c3⟩, ⟨a3, [nI j], c4⟩].length = true) (show knV [115, 117, 98, 115, 116, 114, 105, 110, 103] 3 = true by decide +kernel)]
    unfold subV
    simp only [strV_str ht, oneV_num]
    rfl
  rwa [hs] at h
/-- a text that is not right -/
theorem lc_bad (m : Int) {t : ByteArray} (ht : tS t = false) (hz : t.size ≤ 100000) : LC m ⟨#[115, 116, 114, 105, 110, 103, 45, 108, 101, 110, 103, 116, 104]⟩ 1 [[sI t]] zeroI := by
  refine lc_of ([], 2) (by simp) rfl (fun l hl => by rw [List.mem_singleton] at hl; subst hl; simp) (one_str hz) fun W g c ls he hl hr hok => ?_
  have h := callT_string_length (some ⟨g, 0, none⟩) 1 c ls m W he.e he.m he.c hr hok (R_items hl (one_str R_zero)) (S_items hl (one_str hz)) (by rw [← List.length_map, hl]; rfl) (by decide)
  obtain ⟨a, c2, rfl⟩ := one_of hl
  have hs : callT [115, 116, 114, 105, 110, 103, 45, 108, 101, 110, 103, 116, 104] fLength [⟨a, [sI t], c2⟩] = ([], 2) := by
    unfold callT
    rw [if_neg (by simp [rightL, okI_str, ht])]
  rwa [hs] at h
end Go.Proofs.YtmnmnnocgimcpaaGreatDoor
namespace Go.Proofs.YtmnmnnocgimcpaaGreatDoor
open Go.RowKit
theorem endV_one {n : Int} (_h : 1 ≤ n) (h2 : R64 n) : endV 1 (n - 1) = n := by
  unfold endV
  have e : 1 + (n - 1) = n := by omega
  rw [e, if_pos ((fit_iff n).2 h2)]
theorem app_size (a b : ByteArray) : (a ++ b).size = a.size + b.size := ByteArray.size_append
section
variable {s : ByteArray} {rs : List Nat} (ho : OkR rs) (h : s.data.toList = enc rs) {n : Int}
include ho h
theorem cut_app (hz : s.size ≤ 9000) : cutB s 1 n ++ cutB s n i64max = s := by
  apply ba_same
  rw [ByteArray.data_append, Array.toList_append, cut_runes 1 n ho h, cut_runes n i64max ho h, ← enc_app, cutR_two n i64max 0 rs (Int.le_refl 0), h]
  have h1 := count_runes ho h
  have h2 := Lib.runeCount_le s
  unfold i64max
  omega
theorem cut_ok (i e : Int) : tS (cutB s i e) = true := tS_enc (ho.sub (cutR_mem i e 0 rs)) (cut_runes i e ho h)
theorem cut_count (hz : s.size ≤ 9000) : Lib.runeCount (cutB s 1 n) + Lib.runeCount (cutB s n i64max) = Lib.runeCount s := by
  rw [count_runes (ho.sub (cutR_mem 1 n 0 rs)) (cut_runes 1 n ho h), count_runes (ho.sub (cutR_mem n i64max 0 rs)) (cut_runes n i64max ho h), count_runes ho h, ← List.length_append, cutR_two n i64max 0 rs (Int.le_refl 0)]
  have h1 := count_runes ho h
  have h2 := Lib.runeCount_le s
  unfold i64max
  omega
theorem up_ok : tS (mapB upF s) = true := tS_enc (ho.map fun _ => upR_ok) (map_runes upF upR upR_eq ho h)
theorem lo_ok : tS (mapB loF s) = true := tS_enc (ho.map fun _ => loR_ok) (map_runes loF loR loR_eq ho h)
theorem up_count : Lib.runeCount (mapB upF s) = Lib.runeCount s := by
  rw [count_runes (ho.map fun _ => upR_ok) (map_runes upF upR upR_eq ho h), count_runes ho h, List.length_map]
theorem norm_ok : tS (normB s) = true := tS_enc (nR_ok ho) (norm_runes ho h)
end
theorem pre_app (a b : ByteArray) : Lib.hasPrefix (a ++ b).data.toList a.data.toList = true := by
  unfold Lib.hasPrefix
  rw [ByteArray.data_append, Array.toList_append, List.isPrefixOf_iff_prefix]
  exact List.prefix_append _ _
theorem suf_app (a b : ByteArray) : Lib.hasSuffix (a ++ b).data.toList b.data.toList = true := by
  unfold Lib.hasSuffix
  rw [ByteArray.data_append, Array.toList_append, List.isSuffixOf_iff_suffix]
  exact List.suffix_append _ _
theorem con_pre (a b : ByteArray) : Lib.contains (a ++ b).data.toList a.data.toList = true := by
  rw [contains_occ]
  refine ⟨0, Nat.zero_le _, ?_⟩
  unfold Lib.occAt
  rw [List.drop_zero, ByteArray.data_append, Array.toList_append, List.isPrefixOf_iff_prefix]
  exact List.prefix_append _ _
theorem con_suf (a b : ByteArray) : Lib.contains (a ++ b).data.toList b.data.toList = true := by
  rw [contains_occ]
  refine ⟨a.data.toList.length, by rw [ByteArray.data_append, Array.toList_append, List.length_append]; omega, ?_⟩
  unfold Lib.occAt
  rw [ByteArray.data_append, Array.toList_append, List.drop_left, List.isPrefixOf_iff_prefix]
  exact List.prefix_refl _
end Go.Proofs.YtmnmnnocgimcpaaGreatDoor
namespace Go.Proofs.YtmnmnnocgimcpaaGreatDoor
open Go.RowKit
section
variable {l : List Oper} {K : Value → World → Prop} {u : Nat → Value} {w : World} {o : Oper}
theorem upon_rows1 (x1 : Operand) (a : Option Addr) (n c : Nat) (h : o.op = .buildSlice 22 1 #[(0, x1)]) (h1 : evU u x1 = .slice a n c)
    (hk : K (.slice (some ⟨w.heap.size, 0, none⟩) 1 1) (w.alloc (.cells #[.slice a n c] 25))) : uponU K Tryz.prog ((execOp (evU u) o).run Tryz.prog w) := by
  have hr : (execOp (evU u) o).run Tryz.prog w = .ok (.value (.slice (some ⟨w.heap.size, 0, none⟩) 1 1)) (w.alloc (.cells #[.slice a n c] 25)) := by
    have hu := Tryz.underlying25
    have hu2 := Tryz.underlying22
    unfold execOp
    simp [go_sem, h, h1]
  rw [hr]; exact hk
theorem upon_rows2 (x1 x2 : Operand) (a a2 : Option Addr) (n c n2 c2 : Nat) (h : o.op = .buildSlice 22 2 #[(0, x1), (1, x2)]) (h1 : evU u x1 = .slice a n c) (h2 : evU u x2 = .slice a2 n2 c2)
    (hk : K (.slice (some ⟨w.heap.size, 0, none⟩) 2 2) (w.alloc (.cells #[.slice a n c, .slice a2 n2 c2] 25))) : uponU K Tryz.prog ((execOp (evU u) o).run Tryz.prog w) := by
  have hr : (execOp (evU u) o).run Tryz.prog w = .ok (.value (.slice (some ⟨w.heap.size, 0, none⟩) 2 2)) (w.alloc (.cells #[.slice a n c, .slice a2 n2 c2] 25)) := by
    have hu := Tryz.underlying25
    have hu2 := Tryz.underlying22
    unfold execOp
    simp [go_sem, h, h1, h2]
  rw [hr]; exact hk
end
end Go.Proofs.YtmnmnnocgimcpaaGreatDoor
