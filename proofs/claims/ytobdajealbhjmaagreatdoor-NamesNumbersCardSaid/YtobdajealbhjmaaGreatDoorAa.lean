/- Plain: trees with numbers as keys; bytes of a number. -/
import Derived.Orders
import Derived.Laws.IdiomCopy
import Derived.KernelRfl
import Derived.RangeFuncRecord
import Derived.Below
import Derived.Laws.Strings
import Derived.Laws.Concat
namespace Go.Ai

inductive TT (α : Type) where
  | e
  | n (l : TT α) (v : Option α) (r : TT α)

namespace TT
variable {α : Type}
noncomputable def get (t : TT α) : Nat → Option α :=
  TT.rec (motive := fun _ => Nat → Option α) (fun _ => none)
    (fun _ v _ gl gr k => Bool.rec (Bool.rec (gl (Nat.div k 2)) (gr (Nat.div (Nat.pred k) 2)) (Nat.beq (Nat.mod k 2) 0)) v (Nat.beq k 0)) t
noncomputable def single (x : α) (f : Nat) : Nat → TT α :=
  Nat.rec (motive := fun _ => Nat → TT α) (fun _ => .e)
    (fun _ s k => Bool.rec (Bool.rec (.n (s (Nat.div k 2)) none .e) (.n .e none (s (Nat.div (Nat.pred k) 2))) (Nat.beq (Nat.mod k 2) 0)) (.n .e (some x) .e) (Nat.beq k 0)) f
noncomputable def set (t : TT α) (x : α) : Nat → TT α :=
  TT.rec (motive := fun _ => Nat → TT α) (fun k => single x (Nat.succ k) k)
    (fun l v r gl gr k => Bool.rec (Bool.rec (.n (gl (Nat.div k 2)) v r) (.n l v (gr (Nat.div (Nat.pred k) 2))) (Nat.beq (Nat.mod k 2) 0)) (.n l (some x) r) (Nat.beq k 0)) t

theorem get_e (k : Nat) : (e : TT α).get k = none := rfl
theorem get_n (l r : TT α) (v : Option α) (k : Nat) : (n l v r).get k = if k = 0 then v else if k % 2 = 0 then r.get ((k - 1) / 2) else l.get (k / 2) := by
  show (Bool.rec (Bool.rec (l.get (k / 2)) (r.get ((k - 1) / 2)) (Nat.beq (k % 2) 0)) v (Nat.beq k 0) : Option α) = _
  by_cases h : k = 0
  · subst h; rfl
  · have h1 : Nat.beq k 0 = false := by cases hb : Nat.beq k 0 with | false => rfl | true => exact absurd (Nat.eq_of_beq_eq_true hb) h
    rw [h1]
    by_cases h2 : k % 2 = 0
    · have h3 : Nat.beq (k % 2) 0 = true := by rw [h2]; rfl
      rw [h3]; simp [h, h2]
    · have h3 : Nat.beq (k % 2) 0 = false := by cases hb : Nat.beq (k % 2) 0 with | false => rfl | true => exact absurd (Nat.eq_of_beq_eq_true hb) h2
      rw [h3]; simp [h, h2]
theorem set_e (x : α) (k : Nat) : (e : TT α).set x k = single x (k + 1) k := rfl
theorem set_n (l r : TT α) (v : Option α) (x : α) (k : Nat) : (n l v r).set x k = if k = 0 then .n l (some x) r else if k % 2 = 0 then .n l v (r.set x ((k - 1) / 2)) else .n (l.set x (k / 2)) v r := by
  show (Bool.rec (Bool.rec (.n (l.set x (k / 2)) v r) (.n l v (r.set x ((k - 1) / 2))) (Nat.beq (k % 2) 0)) (.n l (some x) r) (Nat.beq k 0) : TT α) = _
  by_cases h : k = 0
  · subst h; rfl
  · have h1 : Nat.beq k 0 = false := by cases hb : Nat.beq k 0 with | false => rfl | true => exact absurd (Nat.eq_of_beq_eq_true hb) h
    rw [h1]
    by_cases h2 : k % 2 = 0
    · have h3 : Nat.beq (k % 2) 0 = true := by rw [h2]; rfl
      rw [h3]; simp [h, h2]
    · have h3 : Nat.beq (k % 2) 0 = false := by cases hb : Nat.beq (k % 2) 0 with | false => rfl | true => exact absurd (Nat.eq_of_beq_eq_true hb) h2
      rw [h3]; simp [h, h2]
theorem single_succ (x : α) (f k : Nat) : single x (f + 1) k = if k = 0 then .n .e (some x) .e else if k % 2 = 0 then .n .e none (single x f ((k - 1) / 2)) else .n (single x f (k / 2)) none .e := by
  show (Bool.rec (Bool.rec (.n (single x f (k / 2)) none .e) (.n .e none (single x f ((k - 1) / 2))) (Nat.beq (k % 2) 0)) (.n .e (some x) .e) (Nat.beq k 0) : TT α) = _
  by_cases h : k = 0
  · subst h; rfl
  · have h1 : Nat.beq k 0 = false := by cases hb : Nat.beq k 0 with | false => rfl | true => exact absurd (Nat.eq_of_beq_eq_true hb) h
    rw [h1]
    by_cases h2 : k % 2 = 0
    · have h3 : Nat.beq (k % 2) 0 = true := by rw [h2]; rfl
      rw [h3]; simp [h, h2]
    · have h3 : Nat.beq (k % 2) 0 = false := by cases hb : Nat.beq (k % 2) 0 with | false => rfl | true => exact absurd (Nat.eq_of_beq_eq_true hb) h2
      rw [h3]; simp [h, h2]
theorem get_single (x : α) : ∀ (f k j : Nat), k < f → (single x f k).get j = if j = k then some x else none := by
  intro f
  induction f with
  | zero => intro k j h; omega
  | succ f ih =>
    intro k j h
    rw [single_succ]
    by_cases hk : k = 0
    · subst hk
      simp only [if_true, get_n, get_e]
      by_cases hj : j = 0 <;> simp [hj]
    · simp only [hk, if_false]
      by_cases h2 : k % 2 = 0
      · simp only [h2, if_true, get_n, get_e]
        rw [ih _ _ (by omega)]
        by_cases hj : j = 0
        · simp [hj]; omega
        · by_cases hj2 : j % 2 = 0
          · simp only [hj, hj2, if_true, if_false]
            by_cases he : j = k
            · simp [he]
            · have : ¬ (j - 1) / 2 = (k - 1) / 2 := by omega
              simp [he, this]
          · have : ¬ j = k := by intro e; subst e; exact hj2 h2
            simp [hj, hj2, this]
      · simp only [h2, if_false, get_n, get_e]
        rw [ih _ _ (by omega)]
        by_cases hj : j = 0
        · simp [hj]; omega
        · by_cases hj2 : j % 2 = 0
          · have : ¬ j = k := by intro e; subst e; exact h2 hj2
            simp [hj, hj2, this]
          · simp only [hj, hj2, if_false]
            by_cases he : j = k
            · simp [he]
            · have : ¬ j / 2 = k / 2 := by omega
              simp [he, this]
theorem get_set (x : α) : ∀ (t : TT α) (k j : Nat), (t.set x k).get j = if j = k then some x else t.get j := by
  intro t
  induction t with
  | e => intro k j; rw [set_e, get_single _ _ _ _ (by omega), get_e]
  | n l v r ihl ihr =>
    intro k j
    rw [set_n]
    by_cases hk : k = 0
    · subst hk
      simp only [if_true, get_n]
      by_cases hj : j = 0 <;> simp [hj]
    · simp only [hk, if_false]
      by_cases h2 : k % 2 = 0
      · simp only [h2, if_true, get_n, ihr]
        by_cases hj : j = 0
        · have : ¬ (0:Nat) = k := by omega
          simp [hj, this]
        · by_cases hj2 : j % 2 = 0
          · simp only [hj, hj2, if_true, if_false]
            by_cases he : j = k
            · simp [he]
            · have : ¬ (j - 1) / 2 = (k - 1) / 2 := by omega
              simp [he, this]
          · have : ¬ j = k := by intro e; subst e; exact hj2 h2
            simp [hj, hj2, this]
      · simp only [h2, if_false, get_n, ihl]
        by_cases hj : j = 0
        · have : ¬ (0:Nat) = k := by omega
          simp [hj, this]
        · by_cases hj2 : j % 2 = 0
          · have : ¬ j = k := by intro e; subst e; exact h2 hj2
            simp [hj, hj2, this]
          · simp only [hj, hj2, if_false]
            by_cases he : j = k
            · simp [he]
            · have : ¬ j / 2 = k / 2 := by omega
              simp [he, this]
theorem get_set_eq (x : α) (t : TT α) (k : Nat) : (t.set x k).get k = some x := by rw [get_set]; simp
theorem get_set_ne (x : α) (t : TT α) {k j : Nat} (h : j ≠ k) : (t.set x k).get j = t.get j := by rw [get_set]; simp [h]
noncomputable def del (t : TT α) : Nat → TT α :=
  TT.rec (motive := fun _ => Nat → TT α) (fun _ => .e)
    (fun l v r gl gr k => Bool.rec (Bool.rec (.n (gl (Nat.div k 2)) v r) (.n l v (gr (Nat.div (Nat.pred k) 2))) (Nat.beq (Nat.mod k 2) 0)) (.n l none r) (Nat.beq k 0)) t
theorem del_n (l r : TT α) (v : Option α) (k : Nat) : (n l v r).del k = if k = 0 then .n l none r else if k % 2 = 0 then .n l v (r.del ((k - 1) / 2)) else .n (l.del (k / 2)) v r := by
  show (Bool.rec (Bool.rec (.n (l.del (k / 2)) v r) (.n l v (r.del ((k - 1) / 2))) (Nat.beq (k % 2) 0)) (.n l none r) (Nat.beq k 0) : TT α) = _
  by_cases h : k = 0
  · subst h; rfl
  · have h1 : Nat.beq k 0 = false := by cases hb : Nat.beq k 0 with | false => rfl | true => exact absurd (Nat.eq_of_beq_eq_true hb) h
    rw [h1]
    by_cases h2 : k % 2 = 0
    · have h3 : Nat.beq (k % 2) 0 = true := by rw [h2]; rfl
      rw [h3]; simp [h, h2]
    · have h3 : Nat.beq (k % 2) 0 = false := by cases hb : Nat.beq (k % 2) 0 with | false => rfl | true => exact absurd (Nat.eq_of_beq_eq_true hb) h2
      rw [h3]; simp [h, h2]
theorem get_del : ∀ (t : TT α) (k j : Nat), (t.del k).get j = if j = k then none else t.get j := by
  intro t
  induction t with
  | e => intro k j; show (e : TT α).get j = _; simp [get_e]
  | n l v r ihl ihr =>
    intro k j
    rw [del_n]
    by_cases hk : k = 0
    · subst hk
      simp only [if_true, get_n]
      by_cases hj : j = 0 <;> simp [hj]
    · simp only [hk, if_false]
      by_cases h2 : k % 2 = 0
      · simp only [h2, if_true, get_n, ihr]
        by_cases hj : j = 0
        · have : ¬ (0:Nat) = k := by omega
          simp [hj, this]
        · by_cases hj2 : j % 2 = 0
          · simp only [hj, hj2, if_true, if_false]
            by_cases he : j = k
            · simp [he]
            · have : ¬ (j - 1) / 2 = (k - 1) / 2 := by omega
              simp [he, this]
          · have : ¬ j = k := by intro e; subst e; exact hj2 h2
            simp [hj, hj2, this]
      · simp only [h2, if_false, get_n, ihl]
        by_cases hj : j = 0
        · have : ¬ (0:Nat) = k := by omega
          simp [hj, this]
        · by_cases hj2 : j % 2 = 0
          · have : ¬ j = k := by intro e; subst e; exact h2 hj2
            simp [hj, hj2, this]
          · simp only [hj, hj2, if_false]
            by_cases he : j = k
            · simp [he]
            · have : ¬ j / 2 = k / 2 := by omega
              simp [he, this]
end TT

/- the bytes of a number, the least one first -/
def byteAt (x i : Nat) : Nat := Nat.mod (Nat.div x (Nat.pow 256 i)) 256
def cut (x i n : Nat) : Nat := Nat.mod (Nat.div x (Nat.pow 256 i)) (Nat.pow 256 n)
/-- n bytes of y over those of x from i on -/
def over (x i n y : Nat) : Nat := Nat.add (Nat.mod x (Nat.pow 256 i)) (Nat.mul (Nat.pow 256 i) (Nat.add (Nat.mod y (Nat.pow 256 n)) (Nat.mul (Nat.pow 256 n) (Nat.div x (Nat.pow 256 (Nat.add i n))))))
def bytesOf (len x : Nat) : List Nat := (List.range len).map (byteAt x)

theorem byteAt_eq (x i : Nat) : byteAt x i = x / 256 ^ i % 256 := rfl
theorem cut_eq (x i n : Nat) : cut x i n = x / 256 ^ i % 256 ^ n := rfl
theorem over_eq (x i n y : Nat) : over x i n y = x % 256 ^ i + 256 ^ i * (y % 256 ^ n + 256 ^ n * (x / 256 ^ (i + n))) := rfl
theorem byteAt_lt (x i : Nat) : byteAt x i < 256 := Nat.mod_lt _ (by decide)

theorem byteAt_mod (x n i : Nat) : byteAt (x % 256 ^ n) i = if i < n then byteAt x i else 0 := by
  simp only [byteAt_eq]
  by_cases h : i < n
  · simp only [h, if_true]
    obtain ⟨d, rfl⟩ : ∃ d, n = i + 1 + d := ⟨n - (i + 1), by omega⟩
    have h1 : 256 ^ (i + 1 + d) = 256 ^ i * (256 * 256 ^ d) := by rw [Nat.pow_add, Nat.pow_succ, Nat.mul_assoc]
    rw [h1, Nat.mod_mul_right_div_self, Nat.mod_mul_right_mod]
  · simp only [h, if_false]
    have hp : 256 ^ n ≤ 256 ^ i := Nat.pow_le_pow_right (by decide) (by omega)
    rw [Nat.div_eq_of_lt (Nat.lt_of_lt_of_le (Nat.mod_lt _ (Nat.pow_pos (by decide))) hp)]
theorem byteAt_div (x n i : Nat) : byteAt (x / 256 ^ n) i = byteAt x (n + i) := by
  simp only [byteAt_eq, Nat.div_div_eq_div_mul, Nat.pow_add]
theorem byteAt_cut (x i n k : Nat) : byteAt (cut x i n) k = if k < n then byteAt x (i + k) else 0 := by
  rw [cut_eq, byteAt_mod]; simp only [byteAt_div]
theorem byteAt_put (a b n k : Nat) (h : a < 256 ^ n) : byteAt (a + 256 ^ n * b) k = if k < n then byteAt a k else byteAt b (k - n) := by
  by_cases hk : k < n
  · simp only [hk, if_true]
    have : byteAt ((a + 256 ^ n * b) % 256 ^ n) k = byteAt (a + 256 ^ n * b) k := by rw [byteAt_mod]; simp [hk]
    rw [← this, Nat.add_mul_mod_self_left, Nat.mod_eq_of_lt h]
  · simp only [hk, if_false]
    have : byteAt ((a + 256 ^ n * b) / 256 ^ n) (k - n) = byteAt (a + 256 ^ n * b) k := by rw [byteAt_div]; congr 1; omega
    rw [← this, Nat.add_mul_div_left _ _ (Nat.pow_pos (by decide)), Nat.div_eq_of_lt h, Nat.zero_add]
theorem byteAt_over (x i n y k : Nat) : byteAt (over x i n y) k = if k < i then byteAt x k else if k < i + n then byteAt y (k - i) else byteAt x k := by
  rw [over_eq, byteAt_put _ _ _ _ (Nat.mod_lt _ (Nat.pow_pos (by decide)))]
  by_cases h : k < i
  · simp only [h, if_true, byteAt_mod]
  · simp only [h, if_false]
    rw [byteAt_put _ _ _ _ (Nat.mod_lt _ (Nat.pow_pos (by decide))), byteAt_mod, byteAt_div]
    by_cases h2 : k - i < n
    · have : k < i + n := by omega
      simp [h2, this]
    · have h3 : ¬ k < i + n := by omega
      have h4 : i + n + (k - i - n) = k := by omega
      simp [h2, h3, h4]

theorem bytesOf_length (len x : Nat) : (bytesOf len x).length = len := by simp [bytesOf]
theorem bytesOf_get (len x i : Nat) : (bytesOf len x)[i]? = if i < len then some (byteAt x i) else none := by
  simp only [bytesOf, List.getElem?_map]
  by_cases h : i < len
  · simp [h]
  · simp [h]
theorem bytesOf_eq_iff (len x y : Nat) : bytesOf len x = bytesOf len y ↔ x % 256 ^ len = y % 256 ^ len := by
  induction len generalizing x y with
  | zero => simp [bytesOf, Nat.mod_one]
  | succ n ih =>
    have hb : ∀ x, bytesOf (n + 1) x = byteAt x 0 :: bytesOf n (x / 256) := by
      intro x
      apply List.ext_getElem?
      intro i
      cases i with
      | zero => simp [bytesOf_get]
      | succ i =>
        rw [List.getElem?_cons_succ, bytesOf_get, bytesOf_get]
        have : byteAt (x / 256) i = byteAt x (i + 1) := by
          have := byteAt_div x 1 i
          rw [Nat.pow_one] at this
          rw [this, Nat.add_comm]
        simp [this]
    rw [hb, hb, List.cons.injEq, ih]
    have hm : ∀ x, x % 256 ^ (n + 1) = x % 256 + 256 * (x / 256 % 256 ^ n) := by
      intro x; rw [Nat.pow_succ, Nat.mul_comm, Nat.mod_mul]
    rw [hm, hm]
    have e0 : ∀ x, byteAt x 0 = x % 256 := by intro x; simp [byteAt_eq]
    rw [e0, e0]
    constructor
    · rintro ⟨h1, h2⟩; rw [h1, h2]
    · intro h
      have a1 := Nat.mod_lt x (show 0 < 256 by decide)
      have a2 := Nat.mod_lt y (show 0 < 256 by decide)
      omega
end Go.Ai
/- Abstract values and memory, and how they stand to the model's. -/
namespace Go.Ai

/-- Values whose addresses are blocks by numbers of our own. -/
inductive AV where
  | b (x : Bool)
  | i (k : IntKind) (n : Int)
  | s (len x : Nat)
  | pn
  | p (a o : Nat)
  | sn
  | sl (a o len cap : Nat) (op : Bool)
  | se
  | mn
  | m (a : Nat)
  | fn (f : Fn) (first caps : List AV)
  | fz
  | ifc (t : TypeId) (v : AV)
  | inil
  | ag (cs : List AV)
  | tu (vs : List AV)
  | q (n : Nat)
  | by_ (len x : Nat)
  | sr (b o : Nat)

/-- Of a block: its number in the world; how many elements it has beyond those that are known; how many cells lie ahead of those that are known. -/
abbrev Ren := Nat → Option (Nat × Nat × Nat)

def strV (len x : Nat) : ByteArray := ⟨((bytesOf len x).map UInt8.ofNat).toArray⟩

/-- a function's name: yield bears the loop's block -/
def FnR (ρ : Ren) : Fn → Fn → Prop
  | .yield a, f => ∃ c x, ρ a = some (c, x) ∧ f = .yield c
  | g, f => f = g
def notYield : Fn → Bool
  | .yield _ => false
  | _ => true
theorem FnR.plain {ρ : Ren} {g : Fn} (h : notYield g = true) : FnR ρ g g := by
  cases g <;> first | rfl | cases h
theorem FnR.of_plain {ρ : Ren} {g f : Fn} (h : notYield g = true) (e : FnR ρ g f) : f = g := by
  cases g <;> first | exact e | cases h

mutual
def VR (ρ : Ren) (env : Nat → Value) : AV → Value → Prop
  | .b x, u => u = .bool x
  | .i k n, u => u = .int k n
  | .s l x, u => u = .string (strV l x)
  | .pn, u => u = .pointer none
  | .p a o, u => ∃ c x, ρ a = some (c, x) ∧ u = .pointer (some ⟨c, o + x.2, none⟩)
  | .sn, u => u = .slice none 0 0
  | .sl a o len cap op, u => ∃ c x, ρ a = some (c, x) ∧ u = .slice (some ⟨c, o + x.2, none⟩) len (cap + if op then x.1 else 0)
  | .se, u => ∃ a c, u = .slice (some a) 0 c
  | .mn, u => u = .map none
  | .m a, u => ∃ c x, ρ a = some (c, x) ∧ u = .map (some c)
  | .fn f first caps, u => ∃ g l k, FnR ρ f g ∧ u = .func g ⟨l⟩ ⟨k⟩ ∧ VRs ρ env first l ∧ VRs ρ env caps k
  | .fz, u => u = .nilFunc
  | .ifc t v, u => ∃ x, u = .iface t x ∧ VR ρ env v x
  | .inil, u => u = .nilIface
  | .ag cs, u => ∃ l, u = .agg ⟨l⟩ ∧ VRs ρ env cs l
  | .tu cs, u => ∃ l, u = .tuple ⟨l⟩ ∧ VRs ρ env cs l
  | .q n, u => u = env n
  | .by_ len x, u => u = .agg ⟨(bytesOf len x).map fun b => .int .u8 (Int.ofNat b)⟩
  | .sr b o, u => ∃ c x a, ρ b = some (c, x) ∧ u = .slice (some a) 0 x.1 ∧ (x.1 ≠ 0 → a = ⟨c, o + x.2, none⟩)
def VRs (ρ : Ren) (env : Nat → Value) : List AV → List Value → Prop
  | [], l => l = []
  | c :: cs, l => ∃ u us, l = u :: us ∧ VR ρ env c u ∧ VRs ρ env cs us
end

def Ren.le (ρ ρ' : Ren) : Prop := ∀ a x, ρ a = some x → ρ' a = some x
theorem Ren.le_refl (ρ : Ren) : ρ.le ρ := fun _ _ h => h
theorem Ren.le_trans {ρ ρ' ρ'' : Ren} (h : ρ.le ρ') (h' : ρ'.le ρ'') : ρ.le ρ'' := fun a x e => h' a x (h a x e)
theorem FnR.mono {ρ ρ' : Ren} (h : ρ.le ρ') {g f : Fn} (e : FnR ρ g f) : FnR ρ' g f := by
  cases g <;> first
    | exact e
    | (obtain ⟨c, x, h1, h2⟩ := e; exact ⟨c, x, h _ _ h1, h2⟩)

mutual
theorem VR.mono {ρ ρ' : Ren} {env : Nat → Value} (h : ρ.le ρ') : ∀ (v : AV) (u : Value), VR ρ env v u → VR ρ' env v u
  | .b _, _, e | .i _ _, _, e | .s _ _, _, e | .pn, _, e | .sn, _, e | .se, _, e | .mn, _, e | .fz, _, e | .inil, _, e | .q _, _, e | .by_ _ _, _, e => by simpa only [VR] using e
  | .p _ _, _, e | .sl _ _ _ _ _, _, e | .m _, _, e => by
    simp only [VR] at e ⊢
    obtain ⟨c, x, h1, h2⟩ := e
    exact ⟨c, x, h _ _ h1, h2⟩
  | .sr _ _, _, e => by
    simp only [VR] at e ⊢
    obtain ⟨c, x, a, h1, h2⟩ := e
    exact ⟨c, x, a, h _ _ h1, h2⟩
  | .fn _ first caps, _, e => by
    simp only [VR] at e ⊢
    obtain ⟨g, l, k, h0, h1, h2, h3⟩ := e
    exact ⟨g, l, k, h0.mono h, h1, VRs.mono h first l h2, VRs.mono h caps k h3⟩
  | .ifc _ v, _, e => by
    simp only [VR] at e ⊢
    obtain ⟨x, h1, h2⟩ := e
    exact ⟨x, h1, VR.mono h v x h2⟩
  | .ag cs, _, e | .tu cs, _, e => by
    simp only [VR] at e ⊢
    obtain ⟨l, h1, h2⟩ := e
    exact ⟨l, h1, VRs.mono h cs l h2⟩
theorem VRs.mono {ρ ρ' : Ren} {env : Nat → Value} (h : ρ.le ρ') : ∀ (v : List AV) (u : List Value), VRs ρ env v u → VRs ρ' env v u
  | [], _, e => by simpa only [VRs] using e
  | c :: cs, _, e => by
    simp only [VRs] at e ⊢
    obtain ⟨u, us, h1, h2, h3⟩ := e
    exact ⟨u, us, h1, VR.mono h c u h2, VRs.mono h cs us h3⟩
end

section
variable {ρ : Ren} {env : Nat → Value}
theorem VRs.length : ∀ {cs : List AV} {l : List Value}, VRs ρ env cs l → l.length = cs.length
  | [], l, h => by simp only [VRs] at h; simp [h]
  | c :: cs, l, h => by simp only [VRs] at h; obtain ⟨u, us, rfl, _, h3⟩ := h; simp [VRs.length h3]
theorem VRs.append : ∀ {cs ds : List AV} {l k : List Value}, VRs ρ env cs l → VRs ρ env ds k → VRs ρ env (cs ++ ds) (l ++ k)
  | [], _, l, _, h, h' => by simp only [VRs] at h; subst h; simpa using h'
  | c :: cs, ds, l, k, h, h' => by
    simp only [VRs, List.cons_append] at h ⊢
    obtain ⟨u, us, rfl, h2, h3⟩ := h
    exact ⟨u, us ++ k, rfl, h2, VRs.append h3 h'⟩
theorem VRs.get : ∀ {cs : List AV} {l : List Value} (_ : VRs ρ env cs l) {n : Nat} {c : AV}, cs[n]? = some c → ∃ u, l[n]? = some u ∧ VR ρ env c u
  | c :: cs, l, h, 0, d, hn => by
    simp only [VRs] at h; obtain ⟨u, us, rfl, h2, h3⟩ := h
    simp at hn; subst hn; exact ⟨u, by simp, h2⟩
  | c :: cs, l, h, n + 1, d, hn => by
    simp only [VRs] at h; obtain ⟨u, us, rfl, h2, h3⟩ := h
    simp at hn
    simpa using VRs.get h3 hn
theorem VRs.take : ∀ {cs : List AV} {l : List Value} (_ : VRs ρ env cs l) (n : Nat), VRs ρ env (cs.take n) (l.take n)
  | [], l, h, n => by simp only [VRs] at h; subst h; simp [VRs]
  | c :: cs, l, h, 0 => by simp [VRs]
  | c :: cs, l, h, n + 1 => by
    simp only [VRs] at h; obtain ⟨u, us, rfl, h2, h3⟩ := h
    simp only [List.take_succ_cons, VRs]
    exact ⟨u, _, rfl, h2, VRs.take h3 n⟩
theorem VRs.drop : ∀ {cs : List AV} {l : List Value} (_ : VRs ρ env cs l) (n : Nat), VRs ρ env (cs.drop n) (l.drop n)
  | [], l, h, n => by simp only [VRs] at h; subst h; simp [VRs]
  | c :: cs, l, h, 0 => by simpa using h
  | c :: cs, l, h, n + 1 => by
    simp only [VRs] at h; obtain ⟨u, us, rfl, h2, h3⟩ := h
    simpa using VRs.drop h3 n
theorem VRs.replicate (v : AV) (u : Value) (h : VR ρ env v u) : ∀ n, VRs ρ env (List.replicate n v) (List.replicate n u)
  | 0 => by simp [VRs]
  | n + 1 => by simp only [List.replicate_succ, VRs]; exact ⟨u, _, rfl, h, VRs.replicate v u h n⟩
end

/-! what the dump's constants are -/
def numOf : List UInt8 → Nat
  | [] => 0
  | x :: l => Nat.add x.toNat (Nat.mul 256 (numOf l))

theorem bytesOf_numOf : ∀ l : List UInt8, bytesOf l.length (numOf l) = l.map (·.toNat)
  | [] => by simp [bytesOf]
  | x :: l => by
    have ih := bytesOf_numOf l
    apply List.ext_getElem?
    intro i
    have hx : x.toNat < 256 := x.toNat_lt
    rw [bytesOf_get]
    cases i with
    | zero =>
      have : byteAt (numOf (x :: l)) 0 = x.toNat := by
        simp only [byteAt_eq, numOf, Nat.pow_zero, Nat.div_one, Nat.add_eq, Nat.mul_eq]
        omega
      simp [this]
    | succ i =>
      have : byteAt (numOf (x :: l)) (i + 1) = byteAt (numOf l) i := by
        have h1 := byteAt_div (numOf (x :: l)) 1 i
        rw [Nat.pow_one] at h1
        rw [Nat.add_comm i 1, ← h1]
        congr 1
        simp only [numOf, Nat.add_eq, Nat.mul_eq]
        omega
      rw [this]
      have h2 : (bytesOf l.length (numOf l))[i]? = (l.map (·.toNat))[i]? := by rw [ih]
      rw [bytesOf_get] at h2
      simpa using h2
theorem strV_numOf (s : ByteArray) : strV s.data.toList.length (numOf s.data.toList) = s := by
  obtain ⟨⟨l⟩⟩ := s
  simp only [strV, bytesOf_numOf, List.map_map]
  congr 2
  have : (UInt8.ofNat ∘ fun x : UInt8 => x.toNat) = id := by funext x; simp
  rw [this, List.map_id]

mutual
def ofV : Value → Option AV
  | .bool x => some (.b x)
  | .int k n => some (.i k n)
  | .string s => some (.s s.data.toList.length (numOf s.data.toList))
  | .pointer none => some .pn
  | .slice none 0 0 => some .sn
  | .map none => some .mn
  | .func f ⟨[]⟩ ⟨[]⟩ => bif notYield f then some (.fn f [] []) else none
  | .nilFunc => some .fz
  | .iface t v => (ofV v).map (.ifc t)
  | .nilIface => some .inil
  | .agg ⟨l⟩ => (ofVs l).map .ag
  | .tuple ⟨l⟩ => (ofVs l).map .tu
  | _ => none
def ofVs : List Value → Option (List AV)
  | [] => some []
  | v :: l => (ofV v).bind fun x => (ofVs l).map (x :: ·)
end
mutual
theorem ofV_ok (ρ : Ren) (env : Nat → Value) : ∀ (v : Value) (x : AV), ofV v = some x → VR ρ env x v
  | .bool _, x, h | .int _ _, x, h | .pointer none, x, h | .map none, x, h | .nilFunc, x, h | .nilIface, x, h => by simp only [ofV, Option.some.injEq] at h; subst h; simp [VR]
  | .string s, x, h => by simp only [ofV, Option.some.injEq] at h; subst h; simp only [VR]; exact congrArg Value.string (strV_numOf s).symm
  | .slice none 0 0, x, h => by simp only [ofV, Option.some.injEq] at h; subst h; simp [VR]
  | .func f ⟨[]⟩ ⟨[]⟩, x, h => by
    simp only [ofV] at h
    cases hf : notYield f with
    | false => rw [hf] at h; cases h
    | true =>
      rw [hf] at h; cases h
      simp only [VR, VRs]
      exact ⟨f, [], [], FnR.plain hf, rfl, rfl, rfl⟩
  | .iface t v, x, h => by
    simp only [ofV, Option.map_eq_some_iff] at h
    obtain ⟨y, h1, rfl⟩ := h
    simp only [VR]
    exact ⟨v, rfl, ofV_ok ρ env v y h1⟩
  | .agg ⟨l⟩, x, h | .tuple ⟨l⟩, x, h => by
    simp only [ofV, Option.map_eq_some_iff] at h
    obtain ⟨y, h1, rfl⟩ := h
    simp only [VR]
    exact ⟨l, rfl, ofVs_ok ρ env l y h1⟩
  | .pointer (some _), x, h | .map (some _), x, h | .float _ _, x, h | .complex _ _ _, x, h | .chan _, x, h | .slice (some _) _ _, x, h | .slice none (_ + 1) _, x, h | .slice none 0 (_ + 1), x, h => by simp [ofV] at h
  | .func f ⟨_ :: _⟩ _, x, h => by simp [ofV] at h
  | .func f ⟨[]⟩ ⟨_ :: _⟩, x, h => by simp [ofV] at h
theorem ofVs_ok (ρ : Ren) (env : Nat → Value) : ∀ (v : List Value) (x : List AV), ofVs v = some x → VRs ρ env x v
  | [], x, h => by simp only [ofVs, Option.some.injEq] at h; subst h; simp [VRs]
  | v :: l, x, h => by
    simp only [ofVs, Option.bind_eq_some_iff, Option.map_eq_some_iff] at h
    obtain ⟨y, h1, z, h2, rfl⟩ := h
    simp only [VRs]
    exact ⟨v, l, rfl, ofV_ok ρ env v y h1, ofVs_ok ρ env l z h2⟩
end
end Go.Ai
/- Abstract memory, how it stands to a world; loads, stores, new blocks. -/
namespace Go.Ai

/-- What lies in a block. cells: how many cells an element has (of rows that grow), and the cells; bytes: a row of bytes; mp: a map; sit: an iterator over a string. -/
inductive AO where
  | cells (sz : Nat) (cs : List AV)
  | bytes (len x : Nat)
  | mp (es : List (AV × AV × Nat)) (clock : Nat)
  | sit (len x pos : Nat)
  | pm (len n0 : Nat) (t : TT Nat)
  | lp (st : LoopState) (pend : Option Code) (nt : Nat) (T : TT AV) (params : List Tmp) (assign body : Code)

structure Heap where
  t : TT AO
  nx : Nat

def AO.view : AO → Option (Nat × List AV)
  | .cells sz cs => some (sz, cs)
  | .bytes len x => some (1, (bytesOf len x).map fun b => .i .u8 (Int.ofNat b))
  | _ => none

def ERs (ρ : Ren) (env : Nat → Value) : List (AV × AV × Nat) → List MapEntry → Prop
  | [], l => l = []
  | (k, v, b) :: es, l => ∃ e us, l = e :: us ∧ VR ρ env k e.key ∧ VR ρ env v e.val ∧ e.born = b ∧ ERs ρ env es us

/-- what a map of pages holds -/
noncomputable def pget (n0 : Nat) (t : TT Nat) (k : Nat) : Option Nat :=
  match t.get k with
  | some x => some x
  | none => bif Nat.blt k n0 then some 0 else none
def pageV (len x : Nat) : Value := .agg ⟨(bytesOf len x).map fun b => .int .u8 (Int.ofNat b)⟩
structure PMR (len : Nat) (l : List MapEntry) (clock : Nat) (f : Nat → Option Nat) : Prop where
  has : ∀ e ∈ l, ∃ (k : Nat) (x : Nat), e.key = .int .i64 (k : Int) ∧ e.val = pageV len x ∧ f k = some x
  got : ∀ (k x : Nat), f k = some x → ∃ e ∈ l, e.key = .int .i64 (k : Int)
  keys : l.Pairwise fun e e' => e.key ≠ e'.key
  born : l.Pairwise fun e e' => e.born ≠ e'.born
  clock : ∀ e ∈ l, e.born < clock
/-- no cell of the block is frozen -/
def loose (sz n : Nat) (fz : Nat × Nat) : Prop := fz.1 = fz.2 ∨ (n ≤ fz.1 ∧ sz = 1)
theorem loose.one {sz n : Nat} {fz : Nat × Nat} (h : loose sz n fz) : loose 1 n fz := h.imp id fun h => ⟨h.1, rfl⟩
theorem loose.not {sz n : Nat} {fz : Nat × Nat} (h : loose sz n fz) {o : Nat} (ho : o < n) : ¬ (fz.1 ≤ o ∧ o < fz.2) := by
  unfold loose at h; omega

/-- what lies ahead of the cells that are known: nothing, but for rows of elements of one cell -/
structure PreOK (k n s : Nat) : Prop where
  len : n = s
  one : k ≠ 1 → s = 0
def AO.pk : AO → Nat
  | .cells sz _ => sz
  | _ => 0
def ObjR (ρ : Ren) (env : Nat → Value) (x : Nat × Nat) (o : AO) (ob : Obj) : Prop :=
  match o with
  | .cells sz cs => ∃ pre l rest e fz, ob = .cells ⟨pre ++ (l ++ rest)⟩ e fz ∧ VRs ρ env cs l ∧ rest.length = x.1 * sz ∧ PreOK sz pre.length x.2 ∧ loose sz (pre.length + (l.length + rest.length)) fz
  | .bytes len y => ∃ pre l rest e fz, ob = .cells ⟨pre ++ (l ++ rest)⟩ e fz ∧ VRs ρ env ((bytesOf len y).map fun b => AV.i .u8 (Int.ofNat b)) l ∧ rest.length = x.1 * 1 ∧ PreOK 0 pre.length x.2 ∧ loose 1 (pre.length + (l.length + rest.length)) fz
  | .mp es clock => ∃ l, ob = .map ⟨l⟩ clock ∧ ERs ρ env es l
  | .sit len y pos => ob = .stringIter (strV len y) pos ∧ x.2 = 0
  | .pm len n0 t => ∃ l clock, ob = .map ⟨l⟩ clock ∧ PMR len l clock (pget n0 t)
  | .lp st pend nt T params assign body => ∃ l fn d, ob = .loop { state := st, pending := pend, fn, tmps := l, params := ⟨params⟩, assign, body, defers := d } ∧ l.size = nt ∧ ∀ t v, T.get t = some v → ∃ u, l[t]? = some u ∧ VR ρ env v u

theorem ERs.mono {ρ ρ' : Ren} {env : Nat → Value} (h : ρ.le ρ') : ∀ (es : List (AV × AV × Nat)) (l : List MapEntry), ERs ρ env es l → ERs ρ' env es l
  | [], _, e => e
  | (k, v, b) :: es, l, e => by
    obtain ⟨x, us, h1, h2, h3, h4, h5⟩ := e
    exact ⟨x, us, h1, VR.mono h _ _ h2, VR.mono h _ _ h3, h4, ERs.mono h es us h5⟩
theorem ObjR.mono {ρ ρ' : Ren} {env : Nat → Value} {x : Nat × Nat} {o : AO} {ob : Obj} (h : ρ.le ρ') (e : ObjR ρ env x o ob) : ObjR ρ' env x o ob := by
  cases o with
  | cells sz cs => obtain ⟨pre, l, rest, t, fz, h1, h2, h3⟩ := e; exact ⟨pre, l, rest, t, fz, h1, VRs.mono h _ _ h2, h3⟩
  | bytes len y => obtain ⟨pre, l, rest, t, fz, h1, h2, h3⟩ := e; exact ⟨pre, l, rest, t, fz, h1, VRs.mono h _ _ h2, h3⟩
  | mp es clock => obtain ⟨l, h1, h2⟩ := e; exact ⟨l, h1, ERs.mono h _ _ h2⟩
  | sit len y pos => exact e
  | pm len n0 t => exact e
  | lp st pend nt T params assign body => obtain ⟨l, c, d, h1, h2, h3⟩ := e; exact ⟨l, c, d, h1, h2, fun t v ht => let ⟨u, h4, h5⟩ := h3 t v ht; ⟨u, h4, VR.mono h _ _ h5⟩⟩
theorem ObjR.row {ρ : Ren} {env : Nat → Value} {x : Nat × Nat} {sz : Nat} {o : AO} {cs : List AV} {ob : Obj} (hv : o.view = some (sz, cs)) (e : ObjR ρ env x o ob) :
    ∃ pre l rest t fz, ob = .cells ⟨pre ++ (l ++ rest)⟩ t fz ∧ VRs ρ env cs l ∧ rest.length = x.1 * sz ∧ PreOK o.pk pre.length x.2 ∧ loose sz (pre.length + (l.length + rest.length)) fz := by
  cases o with
  | cells s c => simp only [AO.view, Option.some.injEq, Prod.mk.injEq] at hv; obtain ⟨rfl, rfl⟩ := hv; exact e
  | bytes len y => simp only [AO.view, Option.some.injEq, Prod.mk.injEq] at hv; obtain ⟨rfl, rfl⟩ := hv; exact e
  | _ => simp [AO.view] at hv
theorem ObjR.of_row {ρ : Ren} {env : Nat → Value} {x : Nat × Nat} {sz : Nat} {o : AO} {cs : List AV} {ob : Obj} (hv : o.view = some (sz, cs))
    (e : ∃ pre l rest t fz, ob = .cells ⟨pre ++ (l ++ rest)⟩ t fz ∧ VRs ρ env cs l ∧ rest.length = x.1 * sz ∧ PreOK o.pk pre.length x.2 ∧ loose sz (pre.length + (l.length + rest.length)) fz) : ObjR ρ env x o ob := by
  cases o with
  | cells s c => simp only [AO.view, Option.some.injEq, Prod.mk.injEq] at hv; obtain ⟨rfl, rfl⟩ := hv; exact e
  | bytes len y => simp only [AO.view, Option.some.injEq, Prod.mk.injEq] at hv; obtain ⟨rfl, rfl⟩ := hv; exact e
  | _ => simp [AO.view] at hv

theorem old_row {ρ : Ren} {env : Nat → Value} {x sz k : Nat} {cs : List AV} {ob : Obj} (e : ∃ l rest t fz, ob = .cells ⟨l ++ rest⟩ t fz ∧ VRs ρ env cs l ∧ rest.length = x * sz ∧ loose sz (l.length + rest.length) fz) :
    ∃ pre l rest t fz, ob = .cells ⟨pre ++ (l ++ rest)⟩ t fz ∧ VRs ρ env cs l ∧ rest.length = (x, 0).1 * sz ∧ PreOK k pre.length (x, 0).2 ∧ loose sz (pre.length + (l.length + rest.length)) fz := by
  obtain ⟨l, rest, t, fz, h1, h2, h3, h4⟩ := e
  exact ⟨[], l, rest, t, fz, h1, h2, h3, ⟨rfl, fun _ => rfl⟩, by simpa using h4⟩
structure Rel (env : Nat → Value) (ρ : Ren) (H : Heap) (w : World) : Prop where
  obj : ∀ a o c x, H.t.get a = some o → ρ a = some (c, x) → ∃ ob, w.heap[c]? = some ob ∧ ObjR ρ env x o ob
  inj : ∀ a a' o o' c x x', H.t.get a = some o → H.t.get a' = some o' → ρ a = some (c, x) → ρ a' = some (c, x') → a = a'
  new : ∀ a, H.nx ≤ a → ρ a = none ∧ H.t.get a = none
  one : ∀ n, (env n).oneCell' = true

/-- the blocks that may be written -/
def Img (ro : Nat) (ρ : Ren) (H : Heap) (c : Nat) : Prop := ∃ a o x, ro ≤ a ∧ H.t.get a = some o ∧ ρ a = some (c, x)

structure Step (env : Nat → Value) (ro : Nat) (ρ : Ren) (H : Heap) (w : World) (ρ' : Ren) (H' : Heap) (w' : World) : Prop where
  rel : Rel env ρ' H' w'
  old : ∀ a, a < H.nx → ρ' a = ρ a
  nx : H.nx ≤ H'.nx
  img : ∀ lo c, lo ≤ ro → Img lo ρ' H' c → Img lo ρ H c ∨ w.heap.size ≤ c
  keep : ∀ c, c < w.heap.size → ¬ Img ro ρ H c → w'.heap[c]? = w.heap[c]?
  size : w.heap.size ≤ w'.heap.size
  os : w'.os = w.os
  tape : w'.tape = w.tape
  output : w'.output = w.output

section
variable {env : Nat → Value} {ro : Nat} {ρ ρ' ρ'' : Ren} {H H' H'' : Heap} {w w' w'' : World}

theorem Step.le (h : Step env ro ρ H w ρ' H' w') (r : Rel env ρ H w) : ρ.le ρ' := fun a x e => by
  by_cases ha : a < H.nx
  · rw [h.old a ha]; exact e
  · rw [(r.new a (by omega)).1] at e; cases e
theorem Step.refl (r : Rel env ρ H w) : Step env ro ρ H w ρ H w := ⟨r, fun _ _ => rfl, Nat.le_refl _, fun _ _ _ h => .inl h, fun _ _ _ => rfl, Nat.le_refl _, rfl, rfl, rfl⟩
theorem Step.trans (h : Step env ro ρ H w ρ' H' w') (h' : Step env ro ρ' H' w' ρ'' H'' w'') : Step env ro ρ H w ρ'' H'' w'' where
  rel := h'.rel
  old := fun a ha => (h'.old a (Nat.lt_of_lt_of_le ha h.nx)).trans (h.old a ha)
  nx := Nat.le_trans h.nx h'.nx
  img := fun lo c hl hc => by
    rcases h'.img lo c hl hc with h1 | h1
    · exact h.img lo c hl h1
    · exact .inr (Nat.le_trans h.size h1)
  keep := fun c hc hn => by
    refine (h'.keep c (Nat.lt_of_lt_of_le hc h.size) (fun hi => ?_)).trans (h.keep c hc hn)
    rcases h.img ro c (Nat.le_refl _) hi with h1 | h1
    · exact hn h1
    · omega
  size := Nat.le_trans h.size h'.size
  os := h'.os.trans h.os
  tape := h'.tape.trans h.tape
  output := h'.output.trans h.output

theorem Rel.drew (r : Rel env ρ H w) (d : Nat) : Rel env ρ H { w with drawn := d } := ⟨r.obj, r.inj, r.new, r.one⟩
theorem Step.drew (r : Rel env ρ H w) (d : Nat) : Step env ro ρ H w ρ H { w with drawn := d } := ⟨r.drew d, fun _ _ => rfl, Nat.le_refl _, fun _ _ _ h => .inl h, fun _ _ _ => rfl, Nat.le_refl _, rfl, rfl, rfl⟩

def Ren.put (ρ : Ren) (a : Nat) (x : Nat × Nat × Nat) : Ren := fun b => if b = a then some x else ρ b
theorem Ren.put_self (ρ : Ren) (a : Nat) (x : Nat × Nat × Nat) : ρ.put a x a = some x := by simp [Ren.put]
theorem Ren.put_ne (ρ : Ren) {a b : Nat} (x : Nat × Nat × Nat) (h : b ≠ a) : ρ.put a x b = ρ b := by simp [Ren.put, h]
theorem Ren.le_put {ρ : Ren} {a : Nat} (x : Nat × Nat × Nat) (h : ρ a = none) : ρ.le (ρ.put a x) := fun b y e => by
  by_cases hb : b = a
  · subst hb; rw [h] at e; cases e
  · rw [Ren.put_ne _ _ hb]; exact e

/-- a block that stands in the memory already, but not yet in the world, comes to be -/
theorem Rel.come (r : Rel env ρ H w) {a : Nat} {o : AO} {ob : Obj} {x : Nat × Nat} (ha : H.t.get a = some o) (hn : ρ a = none) (ho : ObjR (ρ.put a (w.heap.size, x)) env x o ob) :
    Rel env (ρ.put a (w.heap.size, x)) H { w with heap := w.heap.push ob } := by
  have hlt : ∀ b o' c y, H.t.get b = some o' → ρ b = some (c, y) → c < w.heap.size := fun b o' c y h1 h2 => by
    obtain ⟨ob', h3, _⟩ := r.obj b o' c y h1 h2
    exact (Array.getElem?_eq_some_iff.1 h3).1
  refine ⟨fun b o' c y h1 h2 => ?_, fun b b' o1 o2 c y y' h1 h2 h3 h4 => ?_, fun b hb => ?_, r.one⟩
  · by_cases hb : b = a
    · subst hb
      rw [Ren.put_self] at h2
      cases h2
      rw [ha] at h1
      cases h1
      exact ⟨ob, by simp, ho⟩
    · rw [Ren.put_ne _ _ hb] at h2
      obtain ⟨ob', h3, h4⟩ := r.obj b o' c y h1 h2
      refine ⟨ob', ?_, h4.mono (Ren.le_put _ hn)⟩
      have := hlt b o' c y h1 h2
      show (w.heap.push ob)[c]? = _
      rw [Array.getElem?_push, if_neg (by omega)]
      exact h3
  · by_cases hb : b = a <;> by_cases hb' : b' = a
    · rw [hb, hb']
    · subst hb
      rw [Ren.put_self] at h3
      rw [Ren.put_ne _ _ hb'] at h4
      cases h3
      have := hlt _ _ _ _ h2 h4
      omega
    · subst hb'
      rw [Ren.put_self] at h4
      rw [Ren.put_ne _ _ hb] at h3
      cases h4
      have := hlt _ _ _ _ h1 h3
      omega
    · rw [Ren.put_ne _ _ hb] at h3
      rw [Ren.put_ne _ _ hb'] at h4
      exact r.inj b b' o1 o2 c y y' h1 h2 h3 h4
  · have hne : b ≠ a := fun e => by subst e; rw [(r.new b hb).2] at ha; cases ha
    rw [Ren.put_ne _ _ hne]
    exact r.new b hb

noncomputable def Heap.push (H : Heap) (o : AO) : Heap := ⟨H.t.set o H.nx, Nat.succ H.nx⟩
theorem Rel.push (r : Rel env ρ H w) (o : AO) : Rel env ρ (H.push o) w := by
  have hn := r.new H.nx (Nat.le_refl _)
  refine ⟨fun a o' c x h1 h2 => ?_, fun a a' o1 o2 c x x' h1 h2 h3 h4 => ?_, fun a ha => ?_, r.one⟩
  · have : a ≠ H.nx := fun e => by subst e; rw [hn.1] at h2; cases h2
    simp only [Heap.push, TT.get_set_ne _ _ this] at h1
    exact r.obj a o' c x h1 h2
  · have e1 : a ≠ H.nx := fun e => by subst e; rw [hn.1] at h3; cases h3
    have e2 : a' ≠ H.nx := fun e => by subst e; rw [hn.1] at h4; cases h4
    simp only [Heap.push, TT.get_set_ne _ _ e1] at h1
    simp only [Heap.push, TT.get_set_ne _ _ e2] at h2
    exact r.inj a a' o1 o2 c x x' h1 h2 h3 h4
  · have h : H.nx + 1 ≤ a := ha
    have e1 : a ≠ H.nx := by omega
    simp only [Heap.push, TT.get_set_ne _ _ e1]
    exact r.new a (by omega)
/-- a new block -/
theorem Step.alloc (r : Rel env ρ H w) {o : AO} {ob : Obj} {x : Nat × Nat} (ho : ObjR (ρ.put H.nx (w.heap.size, x)) env x o ob) :
    Step env ro ρ H w (ρ.put H.nx (w.heap.size, x)) (H.push o) { w with heap := w.heap.push ob } where
  rel := Rel.come (r.push o) (by simp [Heap.push, TT.get_set_eq]) (r.new _ (Nat.le_refl _)).1 ho
  old := fun a ha => Ren.put_ne _ _ (by omega)
  nx := Nat.le_succ _
  img := fun lo c _ ⟨a, o', y, h0, h1, h2⟩ => by
    by_cases ha : a = H.nx
    · subst ha; rw [Ren.put_self] at h2; cases h2; exact .inr (Nat.le_refl _)
    · rw [Ren.put_ne _ _ ha] at h2
      simp only [Heap.push, TT.get_set_ne _ _ ha] at h1
      exact .inl ⟨a, o', y, h0, h1, h2⟩
  keep := fun c hc _ => by show (w.heap.push ob)[c]? = _; rw [Array.getElem?_push, if_neg (by omega)]
  size := by simp
  os := rfl
  tape := rfl
  output := rfl

noncomputable def Heap.put (H : Heap) (a : Nat) (o : AO) : Heap := ⟨H.t.set o a, H.nx⟩
/-- a block is written -/
theorem Step.write (r : Rel env ρ H w) {a c : Nat} {x : Nat × Nat} {o o' : AO} {ob : Obj} (hro : ro ≤ a) (ha : H.t.get a = some o) (hc : ρ a = some (c, x)) (ho : ObjR ρ env x o' ob) :
    Step env ro ρ H w ρ (H.put a o') { w with heap := w.heap.setIfInBounds c ob } := by
  obtain ⟨ob0, h0, _⟩ := r.obj a o c x ha hc
  have hlt := (Array.getElem?_eq_some_iff.1 h0).1
  have hget : ∀ b o1, (H.put a o').t.get b = some o1 → ∃ o2, H.t.get b = some o2 := fun b o1 h => by
    by_cases hb : b = a
    · subst hb; exact ⟨o, ha⟩
    · simp only [Heap.put, TT.get_set_ne _ _ hb] at h; exact ⟨o1, h⟩
  refine ⟨⟨fun b o1 c1 x1 h1 h2 => ?_, fun b b' o1 o2 c1 x1 x1' h1 h2 h3 h4 => ?_, fun b hb => ?_, r.one⟩, fun _ _ => rfl, Nat.le_refl _, fun lo c1 _ ⟨b, o1, y, h1, h2, h3⟩ => ?_, fun c1 hc1 hn => ?_, by simp, rfl, rfl, rfl⟩
  · by_cases hb : b = a
    · subst hb
      rw [hc] at h2
      cases h2
      simp only [Heap.put, TT.get_set_eq, Option.some.injEq] at h1
      subst h1
      exact ⟨ob, by simp [hlt], ho⟩
    · obtain ⟨o2, h5⟩ := hget b o1 h1
      simp only [Heap.put, TT.get_set_ne _ _ hb] at h1
      obtain ⟨ob', h3, h4⟩ := r.obj b o1 c1 x1 h1 h2
      refine ⟨ob', ?_, h4⟩
      have hne : c ≠ c1 := fun e => hb (r.inj b a o1 o c1 x1 x h1 ha h2 (e ▸ hc))
      show (w.heap.setIfInBounds c ob)[c1]? = _
      rw [Array.getElem?_setIfInBounds_ne hne]
      exact h3
  · obtain ⟨p1, q1⟩ := hget b o1 h1
    obtain ⟨p2, q2⟩ := hget b' o2 h2
    exact r.inj b b' p1 p2 c1 x1 x1' q1 q2 h3 h4
  · have hb' : H.nx ≤ b := hb
    have hne : b ≠ a := fun e => by subst e; rw [(r.new b hb').2] at ha; cases ha
    simp only [Heap.put, TT.get_set_ne _ _ hne]
    exact r.new b hb'
  · obtain ⟨o2, h4⟩ := hget b o1 h2
    exact .inl ⟨b, o2, y, h1, h4, h3⟩
  · have hne : c ≠ c1 := fun e => hn ⟨a, o, x, hro, ha, e ▸ hc⟩
    show (w.heap.setIfInBounds c ob)[c1]? = _
    rw [Array.getElem?_setIfInBounds_ne hne]
end
end Go.Ai
/- Maps of pages. -/
namespace Go.Ai
section
variable {len clock : Nat} {l : List MapEntry} {f : Nat → Option Nat}

theorem findNow_none {k : Nat} : ∀ {l : List MapEntry} {n : Nat}, (∀ e ∈ l, ∃ j : Nat, e.key = .int .i64 (j : Int) ∧ j ≠ k) → Instr.findNow (.int .i64) (.int .i64 (k : Int)) l n = some none
  | [], n, _ => rfl
  | e :: l, n, h => by
    obtain ⟨j, h1, h2⟩ := h e (by simp)
    have hb : ((k : Int) == (j : Int)) = false := by simp; omega
    simp only [Instr.findNow, h1, Instr.sameNow, if_true, hb]
    exact findNow_none fun e he => h e (by simp [he])
theorem findNow_some {k : Nat} : ∀ {l : List MapEntry} {n : Nat}, (∀ e ∈ l, ∃ j : Nat, e.key = .int .i64 (j : Int)) → (∃ e ∈ l, e.key = .int .i64 (k : Int)) →
    ∃ i e, l[i]? = some e ∧ e.key = .int .i64 (k : Int) ∧ Instr.findNow (.int .i64) (.int .i64 (k : Int)) l n = some (some (n + i, e.val))
  | [], n, _, h => by obtain ⟨e, he, _⟩ := h; cases he
  | e :: l, n, h, hex => by
    obtain ⟨j, h1⟩ := h e (by simp)
    by_cases hj : j = k
    · subst hj
      exact ⟨0, e, by simp, h1, by simp [Instr.findNow, h1, Instr.sameNow]⟩
    · have hb : ((k : Int) == (j : Int)) = false := by simp; omega
      obtain ⟨e', he', hk'⟩ := hex
      have hm : e' ∈ l := by
        rcases List.mem_cons.1 he' with rfl | h2
        · rw [h1] at hk'; simp at hk'; omega
        · exact h2
      obtain ⟨i, e2, h3, h4, h5⟩ := findNow_some (n := n + 1) (fun e he => h e (by simp [he])) ⟨e', hm, hk'⟩
      refine ⟨i + 1, e2, by simpa using h3, h4, ?_⟩
      simp only [Instr.findNow, h1, Instr.sameNow, if_true, hb]
      rw [h5]
      congr 3; omega
theorem PMR.find (h : PMR len l clock f) (k n : Nat) : (∃ x i e, f k = some x ∧ l[i]? = some e ∧ e.key = .int .i64 (k : Int) ∧ e.val = pageV len x ∧ Instr.findNow (.int .i64) (.int .i64 (k : Int)) l n = some (some (n + i, pageV len x))) ∨
    (f k = none ∧ Instr.findNow (.int .i64) (.int .i64 (k : Int)) l n = some none) := by
  cases hf : f k with
  | none =>
    right
    refine ⟨rfl, findNow_none fun e he => ?_⟩
    obtain ⟨j, x, h1, _, h3⟩ := h.has e he
    exact ⟨j, h1, fun e => by subst e; rw [hf] at h3; cases h3⟩
  | some x =>
    left
    obtain ⟨i, e, h1, h2, h3⟩ := findNow_some (k := k) (l := l) (n := n) (fun e he => by obtain ⟨j, x, h1, _⟩ := h.has e he; exact ⟨j, h1⟩) (h.got k x hf)
    obtain ⟨j, x', h4, h5, h6⟩ := h.has e (List.mem_of_getElem? h1)
    rw [h2] at h4
    simp at h4
    obtain rfl : k = j := by omega
    rw [hf] at h6
    cases h6
    exact ⟨x, i, e, rfl, h1, h2, h5, by rw [h3, h5]⟩
def upd (f : Nat → Option Nat) (k x : Nat) : Nat → Option Nat := fun j => if j = k then some x else f j
theorem PMR.set (h : PMR len l clock f) {i k x : Nat} {e e' : MapEntry} (hi : l[i]? = some e) (hk : e.key = .int .i64 (k : Int)) (hk' : e'.key = .int .i64 (k : Int)) (hv : e'.val = pageV len x) (hb : e'.born = e.born) : PMR len (l.set i e') clock (upd f k x) := by
  have hlt := (List.getElem?_eq_some_iff.1 hi).1
  have hkeys := List.pairwise_iff_getElem.1 h.keys
  have hborn := List.pairwise_iff_getElem.1 h.born
  have hie := (List.getElem?_eq_some_iff.1 hi).2
  have other : ∀ j (hj : j < l.length), j ≠ i → l[j].key ≠ .int .i64 (k : Int) := fun j hj hne => by
    rcases Nat.lt_or_gt_of_ne hne with hl | hl
    · have := hkeys j i hj hlt hl; rw [hie, hk] at this; exact this
    · have := hkeys i j hlt hj hl; rw [hie, hk] at this; exact fun e => this e.symm
  refine ⟨fun a ha => ?_, fun j y hj => ?_, List.pairwise_iff_getElem.2 fun p q hp hq hpq => ?_, List.pairwise_iff_getElem.2 fun p q hp hq hpq => ?_, fun a ha => ?_⟩
  · obtain ⟨p, hp⟩ := List.mem_iff_getElem?.1 ha
    rw [List.getElem?_set] at hp
    simp only [hlt, if_true] at hp
    split at hp
    · cases hp; exact ⟨k, x, hk', hv, by simp [upd]⟩
    · rename_i hne
      obtain ⟨hpl, hpe⟩ := List.getElem?_eq_some_iff.1 hp
      obtain ⟨j, y, h1, h2, h3⟩ := h.has a (List.mem_of_getElem? hp)
      refine ⟨j, y, h1, h2, ?_⟩
      have : j ≠ k := fun e => other p hpl (Ne.symm hne) (by rw [hpe, h1, e])
      simp [upd, this, h3]
  · by_cases hjk : j = k
    · subst hjk
      exact ⟨e', List.mem_iff_getElem?.2 ⟨i, by simp [hlt]⟩, hk'⟩
    · simp only [upd, hjk, if_false] at hj
      obtain ⟨a, ha, hak⟩ := h.got j y hj
      obtain ⟨p, hp⟩ := List.mem_iff_getElem?.1 ha
      refine ⟨a, List.mem_iff_getElem?.2 ⟨p, ?_⟩, hak⟩
      have : ¬ i = p := fun e => by subst e; rw [hi] at hp; cases hp; rw [hk] at hak; simp at hak; omega
      rw [List.getElem?_set]; simp [this, hp]
  · simp only [List.length_set] at hp hq
    rw [List.getElem_set, List.getElem_set]
    split
    · rename_i e1; subst e1
      split
      · omega
      · rw [hk']; exact fun e => other q hq (by omega) e.symm
    · split
      · rename_i e1; subst e1; rw [hk']; exact other p hp (by omega)
      · exact hkeys p q hp hq hpq
  · simp only [List.length_set] at hp hq
    rw [List.getElem_set, List.getElem_set]
    split
    · rename_i e1; subst e1
      split
      · omega
      · have := hborn i q hlt hq hpq; rw [hie] at this; rw [hb]; exact this
    · split
      · rename_i e1; subst e1; have := hborn p i hp hlt hpq; rw [hie] at this; rw [hb]; exact this
      · exact hborn p q hp hq hpq
  · obtain ⟨p, hp⟩ := List.mem_iff_getElem?.1 ha
    rw [List.getElem?_set] at hp
    simp only [hlt, if_true] at hp
    split at hp
    · cases hp; rw [hb]; exact h.clock e (List.mem_of_getElem? hi)
    · exact h.clock a (List.mem_of_getElem? hp)
theorem PMR.snoc (h : PMR len l clock f) {k x : Nat} {e : MapEntry} (hf : f k = none) (hk : e.key = .int .i64 (k : Int)) (hv : e.val = pageV len x) (hb : e.born = clock) : PMR len (l ++ [e]) (clock + 1) (upd f k x) := by
  have hno : ∀ a ∈ l, a.key ≠ e.key := fun a ha => by
    obtain ⟨j, y, h1, _, h3⟩ := h.has a ha
    rw [h1, hk]
    intro e; simp at e
    obtain rfl : j = k := by omega
    rw [hf] at h3; cases h3
  refine ⟨fun a ha => ?_, fun j y hj => ?_, ?_, ?_, fun a ha => ?_⟩
  · rcases List.mem_append.1 ha with ha | ha
    · obtain ⟨j, y, h1, h2, h3⟩ := h.has a ha
      refine ⟨j, y, h1, h2, ?_⟩
      have : j ≠ k := fun e => by subst e; rw [hf] at h3; cases h3
      simp [upd, this, h3]
    · simp at ha; subst ha; exact ⟨k, x, hk, hv, by simp [upd]⟩
  · by_cases hjk : j = k
    · subst hjk; exact ⟨e, by simp, hk⟩
    · simp only [upd, hjk, if_false] at hj
      obtain ⟨a, ha, hak⟩ := h.got j y hj
      exact ⟨a, by simp [ha], hak⟩
  · rw [List.pairwise_append]
    exact ⟨h.keys, by simp, fun a ha b hb' => by simp at hb'; subst hb'; exact hno a ha⟩
  · rw [List.pairwise_append]
    exact ⟨h.born, by simp, fun a ha b hb' => by simp at hb'; subst hb'; have := h.clock a ha; omega⟩
  · rcases List.mem_append.1 ha with ha | ha
    · have := h.clock a ha; omega
    · simp at ha; subst ha; omega
theorem PMR.nil (len clock : Nat) : PMR len [] clock (fun _ => none) := ⟨fun e he => (by cases he), fun k x h => (by cases h), .nil, .nil, fun e he => (by cases he)⟩
theorem pget_set (n0 : Nat) (t : TT Nat) (k x : Nat) : pget n0 (t.set x k) = upd (pget n0 t) k x := by
  funext j
  simp only [pget, upd, TT.get_set]
  by_cases h : j = k <;> simp [h]
theorem pget_nil : pget 0 .e = fun _ => none := by
  funext j
  simp only [pget, TT.get_e]
  rfl
end
end Go.Ai
/- Operands; what operations without addresses yield; loads, addresses, fields: the readers. -/
namespace Go.Ai

/-- a run that asks neither memory nor tape -/
def runPure (P : Program) {α : Type} : Sem α → Option α
  | .pure a => some a
  | .program k => runPure P (k P)
  | .mark _ k => runPure P k
  | _ => none
theorem runPure_ok {P : Program} {α : Type} (w : World) : ∀ (s : Sem α) (a : α), runPure P s = some a → s.run P w = .ok a w
  | .pure a, b, h => by simp only [runPure, Option.some.injEq] at h; subst h; rfl
  | .program k, b, h => by simp only [runPure] at h; exact runPure_ok w (k P) b h
  | .mark _ k, b, h => by simp only [runPure] at h; exact runPure_ok w k b h
  | .load .., _, h | .store .., _, h | .new .., _, h | .shape .., _, h | .freeze .., _, h | .frozen .., _, h | .getObj .., _, h | .setObj .., _, h | .choose .., _, h | .sys .., _, h | .halt .., _, h => by simp [runPure] at h

mutual
/-- the model's value of one that holds no address -/
def toV : AV → Option Value
  | .b x => some (.bool x)
  | .i k n => some (.int k n)
  | .s l x => some (.string (strV l x))
  | .pn => some (.pointer none)
  | .sn => some (.slice none 0 0)
  | .mn => some (.map none)
  | .fz => some .nilFunc
  | .inil => some .nilIface
  | .ifc t v => (toV v).map (.iface t)
  | .ag cs => (toVs cs).map fun l => .agg ⟨l⟩
  | .tu cs => (toVs cs).map fun l => .tuple ⟨l⟩
  | _ => none
def toVs : List AV → Option (List Value)
  | [] => some []
  | c :: cs => (toV c).bind fun u => (toVs cs).map (u :: ·)
end
mutual
theorem toV_ok {ρ : Ren} {env : Nat → Value} : ∀ (v : AV) (u u' : Value), toV v = some u → VR ρ env v u' → u' = u
  | .b _, u, u', h, e | .i _ _, u, u', h, e | .s _ _, u, u', h, e | .pn, u, u', h, e | .sn, u, u', h, e | .mn, u, u', h, e | .fz, u, u', h, e | .inil, u, u', h, e => by
    simp only [toV, Option.some.injEq] at h; simp only [VR] at e; rw [e, h]
  | .ifc t v, u, u', h, e => by
    simp only [toV, Option.map_eq_some_iff] at h
    obtain ⟨y, h1, rfl⟩ := h
    simp only [VR] at e
    obtain ⟨z, rfl, h2⟩ := e
    rw [toV_ok v y z h1 h2]
  | .ag cs, u, u', h, e | .tu cs, u, u', h, e => by
    simp only [toV, Option.map_eq_some_iff] at h
    obtain ⟨y, h1, rfl⟩ := h
    simp only [VR] at e
    obtain ⟨z, rfl, h2⟩ := e
    rw [toVs_ok cs y z h1 h2]
  | .p _ _, _, _, h, _ | .sl _ _ _ _ _, _, _, h, _ | .se, _, _, h, _ | .m _, _, _, h, _ | .fn _ _ _, _, _, h, _ | .q _, _, _, h, _ | .by_ _ _, _, _, h, _ | .sr _ _, _, _, h, _ => by simp [toV] at h
theorem toVs_ok {ρ : Ren} {env : Nat → Value} : ∀ (v : List AV) (u u' : List Value), toVs v = some u → VRs ρ env v u' → u' = u
  | [], u, u', h, e => by simp only [toVs, Option.some.injEq] at h; simp only [VRs] at e; rw [e, h]
  | c :: cs, u, u', h, e => by
    simp only [toVs, Option.bind_eq_some_iff, Option.map_eq_some_iff] at h
    obtain ⟨y, h1, z, h2, rfl⟩ := h
    simp only [VRs] at e
    obtain ⟨p, q, rfl, h3, h4⟩ := e
    rw [toV_ok c y p h1 h3, toVs_ok cs z q h2 h4]
end

/-! frames -/
def FR (ρ : Ren) (env : Nat → Value) (T : TT AV) (tmps : Array Value) : Prop := ∀ t v, T.get t = some v → ∃ u, tmps[t]? = some u ∧ VR ρ env v u
theorem FR.mono {ρ ρ' : Ren} {env : Nat → Value} {T : TT AV} {tmps : Array Value} (h : FR ρ env T tmps) (hl : ρ.le ρ') : FR ρ' env T tmps := fun t v e => by
  obtain ⟨u, h1, h2⟩ := h t v e
  exact ⟨u, h1, h2.mono hl⟩
theorem FR.set {ρ : Ren} {env : Nat → Value} {T : TT AV} {tmps : Array Value} (h : FR ρ env T tmps) {d : Nat} (hd : d < tmps.size) {v : AV} {u : Value} (hv : VR ρ env v u) : FR ρ env (T.set v d) (tmps.setIfInBounds d u) := fun t x e => by
  by_cases ht : t = d
  · subst ht
    rw [TT.get_set_eq] at e
    cases e
    exact ⟨u, by simp [hd], hv⟩
  · rw [TT.get_set_ne _ _ ht] at e
    obtain ⟨y, h1, h2⟩ := h t x e
    exact ⟨y, by rw [Array.getElem?_setIfInBounds_ne (Ne.symm ht)]; exact h1, h2⟩

def GOK (ng : Nat) (ρ : Ren) : Prop := ∀ g, g < ng → ρ g = some (g, 0, 0)
theorem GOK.mono {ng : Nat} {ρ ρ' : Ren} (h : GOK ng ρ) (hl : ρ.le ρ') : GOK ng ρ' := fun g hg => hl _ _ (h g hg)

noncomputable def ev (ng : Nat) (T : TT AV) (x : Operand) : Option AV :=
  match x with
  | .tmp t => T.get t
  | .const v => ofV v
  | .global g => bif Nat.blt g ng then some (.p g 0) else none
  | .func f => some (.fn (.func f) [] [])
theorem blt_iff {a b : Nat} : Nat.blt a b = true ↔ a < b := by
  unfold Nat.blt; rw [Nat.ble_eq]; exact Iff.rfl
theorem ev_ok {ng : Nat} {ρ : Ren} {env : Nat → Value} {T : TT AV} {a : Act} (hg : GOK ng ρ) (hF : FR ρ env T a.tmps) {x : Operand} {v : AV} (h : ev ng T x = some v) : VR ρ env v (a.eval x) := by
  cases x with
  | tmp t => obtain ⟨u, h1, h2⟩ := hF t v h; simpa [Act.eval, h1] using h2
  | const c => exact ofV_ok ρ env c v h
  | global g =>
    simp only [ev] at h
    cases hb : Nat.blt g ng with
    | false => rw [hb] at h; cases h
    | true =>
      rw [hb] at h; cases h
      exact ⟨g, (0, 0), hg g (blt_iff.1 hb), rfl⟩
  | func f => simp only [ev, Option.some.injEq] at h; subst h; simp [VR, VRs, Act.eval, FnR]

noncomputable def evs (ng : Nat) (T : TT AV) : List Operand → Option (List AV)
  | [] => some []
  | x :: l => match ev ng T x with
    | some v => match evs ng T l with
      | some vs => some (v :: vs)
      | none => none
    | none => none
theorem evs_ok {ng : Nat} {ρ : Ren} {env : Nat → Value} {T : TT AV} {a : Act} (hg : GOK ng ρ) (hF : FR ρ env T a.tmps) : ∀ {l : List Operand} {vs : List AV}, evs ng T l = some vs → VRs ρ env vs (l.map a.eval)
  | [], vs, h => by simp only [evs, Option.some.injEq] at h; subst h; simp [VRs]
  | x :: l, vs, h => by
    simp only [evs] at h
    split at h
    · rename_i v hv
      split at h
      · rename_i us hu
        cases h
        simp only [List.map_cons, VRs]
        exact ⟨_, _, rfl, ev_ok hg hF hv, evs_ok hg hF hu⟩
      · cases h
    · cases h

/-! an operation whose operands hold no address, and which asks neither memory nor tape -/
noncomputable def rhoP (ng : Nat) (T : TT AV) (x : Operand) : Option Value := (ev ng T x).bind toV
def isSel : Op → Bool
  | .select .. => true
  | _ => false
noncomputable def pureOp (P : Program) (ng : Nat) (T : TT AV) (o : Oper) : Option AV :=
  bif isSel o.op then none else
  bif o.op.operands.toList.all fun x => (rhoP ng T x).isSome then
    match runPure P (execOp (fun x => (rhoP ng T x).getD undef) o) with
    | some (.value u) => ofV u
    | _ => none
  else none
theorem pureOp_ok {P : Program} {ng : Nat} {ρ : Ren} {env : Nat → Value} {T : TT AV} {a : Act} {o : Oper} {v : AV} (w : World) (hg : GOK ng ρ) (hF : FR ρ env T a.tmps) (h : pureOp P ng T o = some v) :
    ∃ u, (execOp a.eval o).run P w = .ok (.value u) w ∧ VR ρ env v u := by
  unfold pureOp at h
  cases hs : isSel o.op with
  | true => rw [hs] at h; cases h
  | false =>
  rw [hs] at h
  simp only [cond_false] at h
  have hsel : ∀ cs b, o.op ≠ .select cs b := fun cs b e => by rw [e] at hs; cases hs
  cases hall : o.op.operands.toList.all fun x => (rhoP ng T x).isSome with
  | false => rw [hall] at h; cases h
  | true =>
    rw [hall] at h
    simp only [cond_true] at h
    have hcg : execOp a.eval o = execOp (fun x => (rhoP ng T x).getD undef) o := by
      refine execOp_congr o hsel fun x hx => ?_
      have h1 := List.all_eq_true.1 hall x (by simpa using hx)
      obtain ⟨u, hu⟩ := Option.isSome_iff_exists.1 h1
      rw [hu, Option.getD_some]
      simp only [rhoP, Option.bind_eq_some_iff] at hu
      obtain ⟨y, h2, h3⟩ := hu
      exact toV_ok y u _ h3 (ev_ok hg hF h2)
    split at h
    · rename_i u hr
      exact ⟨u, by rw [hcg]; exact runPure_ok w _ _ hr, ofV_ok ρ env u v h⟩
    · cases h

/-! types -/
def aggD : TypeDesc → Bool
  | .struct _ | .array _ _ => true
  | _ => false
def tyAgg (P : Program) (t : TypeId) : Option (Bool × Nat) := (P.underlying t).bind fun d => (P.info? t).map fun i => (aggD d, i.size)
theorem run_sizeOf {P : Program} {t : TypeId} {i : TypeInfo} (w : World) (h : P.info? t = some i) : (sizeOf t).run P w = .ok i.size w := by
  simp [sizeOf, typeInfo, h]
theorem run_isAgg {P : Program} {t : TypeId} {d : TypeDesc} (w : World) (h : P.underlying t = some d) : (isAgg t).run P w = .ok (aggD d) w := by
  simp only [isAgg, Sem.run_bind, run_underlying h, Result.andThen_ok]
  cases d <;> rfl
theorem tyAgg_ok {P : Program} {t : TypeId} {b : Bool} {n : Nat} (w : World) (h : tyAgg P t = some (b, n)) : (isAgg t).run P w = .ok b w ∧ (sizeOf t).run P w = .ok n w := by
  simp only [tyAgg, Option.bind_eq_some_iff, Option.map_eq_some_iff] at h
  obtain ⟨d, h1, i, h2, h3⟩ := h
  cases h3
  exact ⟨run_isAgg w h1, run_sizeOf w h2⟩

/-! loads -/
noncomputable def AO.read (o : AO) (off n : Nat) : Option (List AV) :=
  match o with
  | .cells _ cs => let l := (cs.drop off).take n; bif Nat.beq l.length n then some l else none
  | .bytes len x => bif Nat.ble (off + n) len then some ((List.range n).map fun j => .i .u8 (Int.ofNat (byteAt x (off + j)))) else none
  | _ => none
theorem AO.read_view {o : AO} {off n : Nat} {l : List AV} (h : o.read off n = some l) : ∃ sz cs, o.view = some (sz, cs) ∧ (cs.drop off).take n = l ∧ l.length = n := by
  cases o with
  | cells sz cs =>
    simp only [AO.read] at h
    cases hb : Nat.beq ((cs.drop off).take n).length n with
    | false => rw [hb] at h; cases h
    | true => rw [hb] at h; cases h; exact ⟨sz, cs, rfl, rfl, Nat.eq_of_beq_eq_true hb⟩
  | bytes len x =>
    simp only [AO.read] at h
    cases hb : Nat.ble (off + n) len with
    | false => rw [hb] at h; cases h
    | true =>
      rw [hb] at h; cases h
      have hle : off + n ≤ len := Nat.le_of_ble_eq_true hb
      refine ⟨1, _, rfl, ?_, by simp⟩
      apply List.ext_getElem?
      intro j
      rw [List.getElem?_take, List.getElem?_drop, List.getElem?_map, bytesOf_get, List.getElem?_map]
      by_cases hj : j < n
      · have : off + j < len := by omega
        simp [hj, this]
      · simp [hj]
  | _ => simp [AO.read] at h
noncomputable def AO.cell (o : AO) (off : Nat) : Option AV :=
  match o with
  | .cells _ cs => cs[off]?
  | .bytes len x => bif Nat.blt off len then some (.i .u8 (Int.ofNat (byteAt x off))) else none
  | _ => none
theorem AO.cell_view {o : AO} {off : Nat} {v : AV} (h : o.cell off = some v) : ∃ sz cs, o.view = some (sz, cs) ∧ cs[off]? = some v := by
  cases o with
  | cells sz cs => exact ⟨sz, cs, rfl, h⟩
  | bytes len x =>
    simp only [AO.cell] at h
    cases hb : Nat.blt off len with
    | false => rw [hb] at h; cases h
    | true =>
      rw [hb] at h; cases h
      have := blt_iff.1 hb
      exact ⟨1, _, rfl, by rw [List.getElem?_map, bytesOf_get]; simp [this]⟩
  | _ => simp [AO.cell] at h

section
variable {P : Program} {env : Nat → Value} {ρ : Ren} {H : Heap} {w : World}
theorem get_mid {α : Type} {pre l rest : List α} {i s : Nat} {v : α} (h : l[i]? = some v) (hp : pre.length = s) : (pre ++ (l ++ rest))[i + s]? = some v := by
  have hlt := (List.getElem?_eq_some_iff.1 h).1
  rw [List.getElem?_append_right (by omega), ← hp, Nat.add_sub_cancel, List.getElem?_append_left hlt, h]
theorem cell?_mid {c i s : Nat} {pre l rest : List Value} {t : TypeId} {fz : Nat × Nat} {v : Value} (h1 : w.heap[c]? = some (.cells ⟨pre ++ (l ++ rest)⟩ t fz)) (h : l[i]? = some v) (hp : pre.length = s) : w.cell? ⟨c, i + s, none⟩ = some v := by
  have e := get_mid (rest := rest) h hp
  simp only [World.cell?, h1]
  simpa using e
theorem cell_of_get (r : Rel env ρ H w) {a c off : Nat} {x : Nat × Nat} {o : AO} {v : AV} (ha : H.t.get a = some o) (hc : ρ a = some (c, x)) (hv : o.cell off = some v) : ∃ u, w.cell? ⟨c, off + x.2, none⟩ = some u ∧ VR ρ env v u := by
  obtain ⟨ob, h1, h2⟩ := r.obj a o c x ha hc
  obtain ⟨sz, cs, h3, h4⟩ := AO.cell_view hv
  obtain ⟨pre, l, rest, t, fz, rfl, h5, _, hp, _⟩ := h2.row h3
  obtain ⟨u, h6, h7⟩ := h5.get h4
  exact ⟨u, cell?_mid h1 h6 hp.len, h7⟩
theorem add_none (c off j : Nat) : (⟨c, off, none⟩ : Addr).add j = ⟨c, off + j, none⟩ := by unfold Addr.add; split <;> simp_all
theorem cells_of_read (r : Rel env ρ H w) {a c off n : Nat} {x : Nat × Nat} {o : AO} {l : List AV} (ha : H.t.get a = some o) (hc : ρ a = some (c, x)) (hv : o.read off n = some l) :
    ∃ us, (loadCells ⟨c, off + x.2, none⟩ n).run P w = .ok ⟨us⟩ w ∧ VRs ρ env l us := by
  obtain ⟨ob, h1, h2⟩ := r.obj a o c x ha hc
  obtain ⟨sz, cs, h3, h4, h5⟩ := AO.read_view hv
  obtain ⟨pre, k, rest, t, fz, rfl, h6, _, hp, _⟩ := h2.row h3
  have h7 : VRs ρ env l ((k.drop off).take n) := h4 ▸ (h6.drop off).take n
  refine ⟨_, ?_, h7⟩
  have hl : ((k.drop off).take n).length = n := by rw [h7.length, h5]
  have := run_loadCells_list (P := P) w ⟨c, off + x.2, none⟩ ((k.drop off).take n) (fun j v hj => by
    rw [add_none]
    rw [List.getElem?_take] at hj
    split at hj
    · rw [List.getElem?_drop] at hj
      rw [Nat.add_right_comm]
      exact cell?_mid h1 hj hp.len
    · cases hj)
  rwa [hl] at this

/-- an aggregate that stands there -/
noncomputable def AO.agg (o : AO) (off n : Nat) : Option AV :=
  match o with
  | .bytes len x => bif Nat.ble (Nat.add off n) len then some (.by_ n (cut x off n)) else none
  | o => (o.read off n).map .ag
theorem bytes_only : ∀ (l : List Nat) (us : List Value), VRs ρ env (l.map fun b => AV.i .u8 (Int.ofNat b)) us → us = l.map fun b => Value.int .u8 (Int.ofNat b)
  | [], us, h => by simpa [VRs] using h
  | z :: l, us, h => by
    simp only [List.map_cons, VRs] at h
    obtain ⟨u, us', rfl, h4, h5⟩ := h
    simp only [VR] at h4
    rw [h4, bytes_only l us' h5]; rfl
theorem range_cut (y off len : Nat) : (List.range len).map (fun j => AV.i .u8 (Int.ofNat (byteAt y (off + j)))) = (bytesOf len (cut y off len)).map fun b => AV.i .u8 (Int.ofNat b) := by
  simp only [bytesOf, List.map_map]
  apply List.map_congr_left
  intro j hj
  simp only [Function.comp, byteAt_cut, List.mem_range.1 hj, if_true]
theorem agg_ok (r : Rel env ρ H w) {a c off n : Nat} {x : Nat × Nat} {o : AO} {v : AV} (ha : H.t.get a = some o) (hc : ρ a = some (c, x)) (hv : o.agg off n = some v) :
    ∃ us, (loadCells ⟨c, off + x.2, none⟩ n).run P w = .ok ⟨us⟩ w ∧ VR ρ env v (.agg ⟨us⟩) := by
  unfold AO.agg at hv
  split at hv
  · rename_i len y
    cases hb : Nat.ble (Nat.add off n) len with
    | false => rw [hb] at hv; cases hv
    | true =>
      rw [hb] at hv; cases hv
      obtain ⟨us, h1, h2⟩ := cells_of_read (P := P) r ha hc (off := off) (n := n) (l := (List.range n).map fun j => .i .u8 (Int.ofNat (byteAt y (off + j)))) (by
        simp only [AO.read]
        rw [show Nat.ble (off + n) len = true from hb]; rfl)
      rw [range_cut] at h2
      exact ⟨us, h1, by simp only [VR, bytes_only _ _ h2]⟩
  · obtain ⟨l, h1, rfl⟩ := Option.map_eq_some_iff.1 hv
    obtain ⟨us, h2, h3⟩ := cells_of_read (P := P) r ha hc h1
    exact ⟨us, h2, by simp only [VR]; exact ⟨us, rfl, h3⟩⟩
noncomputable def aLoad (P : Program) (H : Heap) (t : TypeId) (a : AV) : Option AV :=
  match a with
  | .p b off => match H.t.get b with
    | some o => match tyAgg P t with
      | some (true, n) => o.agg off n
      | some (false, _) => o.cell off
      | none => none
    | none => none
  | _ => none
theorem aLoad_ok (r : Rel env ρ H w) {t : TypeId} {a : AV} {u : Value} {v : AV} (hu : VR ρ env a u) (h : aLoad P H t a = some v) : ∃ x, (Instr.loadAt t u).run P w = .ok x w ∧ VR ρ env v x := by
  unfold aLoad at h
  split at h
  · rename_i b off
    simp only [VR] at hu
    obtain ⟨c, x, hc, rfl⟩ := hu
    split at h
    · rename_i o ho
      split at h
      · rename_i n hn
        obtain ⟨h1, h2⟩ := tyAgg_ok w hn
        obtain ⟨us, h4, h5⟩ := agg_ok (P := P) r ho hc h
        refine ⟨.agg ⟨us⟩, ?_, h5⟩
        simp [Instr.loadAt, Instr.sureAddr, loadVar, h1, h2, h4]
      · rename_i n hn
        obtain ⟨h1, h2⟩ := tyAgg_ok w hn
        obtain ⟨y, h3, h4⟩ := cell_of_get r ho hc h
        refine ⟨y, ?_, h4⟩
        simp [Instr.loadAt, Instr.sureAddr, loadVar, h1, h3]
      · cases h
    · cases h
  · cases h

/-! addresses of fields -/
def fieldOf (P : Program) (s : TypeId) (f : Nat) : Option (Nat × Nat) :=
  match P.underlying s with
  | some (.struct fs) => (fs[f]?).bind fun g => (P.info? g.type).map fun i => (g.offset, i.size)
  | _ => none
noncomputable def aFieldAddr (P : Program) (s : TypeId) (f : Nat) (a : AV) : Option AV :=
  match a with
  | .p b off => match fieldOf P s f with
    | some (o, n) => bif Nat.beq n 0 then none else some (.p b (Nat.add off o))
    | none => none
  | _ => none
theorem aFieldAddr_ok {s : TypeId} {f : Nat} {a : AV} {u : Value} {v : AV} (hu : VR ρ env a u) (h : aFieldAddr P s f a = some v) : ∃ x, (Instr.fieldAt s u f).run P w = .ok x w ∧ VR ρ env v x := by
  unfold aFieldAddr at h
  split at h
  · rename_i b off
    simp only [VR] at hu
    obtain ⟨c, x, hc, rfl⟩ := hu
    split at h
    · rename_i o n hf
      cases hb : Nat.beq n 0 with
      | true => rw [hb] at h; cases h
      | false =>
        rw [hb] at h; cases h
        have hn : n ≠ 0 := fun e => by subst e; cases hb
        unfold fieldOf at hf
        split at hf
        · rename_i fs hs
          simp only [Option.bind_eq_some_iff, Option.map_eq_some_iff] at hf
          obtain ⟨g, h1, i, h2, h3⟩ := hf
          cases h3
          refine ⟨.pointer (some ⟨c, off + x.2 + g.offset, none⟩), ?_, by simp only [VR]; exact ⟨c, x, hc, by rw [Nat.add_right_comm]; rfl⟩⟩
          simp [Instr.fieldAt, run_underlying hs, h1, Instr.sureAddr, fieldPlace, run_sizeOf w h2, hn, add_none]
        · cases hf
    · cases h
  · cases h

/-! elements -/
noncomputable def aIndexAddr (P : Program) (t : TypeId) (x ix : AV) : Option AV :=
  match x, ix with
  | .sl b off len _ _, .i _ (.ofNat n) => match P.underlying t with
    | some (.slice e) => match P.info? e with
      | some i => bif Nat.blt n len then some (.p b (Nat.add off (Nat.mul n i.size))) else none
      | none => none
    | _ => none
  | .p b off, .i _ (.ofNat n) => match P.underlying t with
    | some (.array len e) => match P.info? e with
      | some i => bif Nat.blt n len then some (.p b (Nat.add off (Nat.mul n i.size))) else none
      | none => none
    | _ => none
  | _, _ => none
theorem aIndexAddr_ok {t : TypeId} {x ix : AV} {u k : Value} {v : AV} (hu : VR ρ env x u) (hk : VR ρ env ix k) (h : aIndexAddr P t x ix = some v) : ∃ y, (Instr.indexAt t u k).run P w = .ok y w ∧ VR ρ env v y := by
  unfold aIndexAddr at h
  split at h
  · rename_i b off len cap op kk n
    simp only [VR] at hu hk
    obtain ⟨c, x, hc, rfl⟩ := hu
    subst hk
    split at h
    · rename_i e ht
      split at h
      · rename_i i hi
        cases hb : Nat.blt n len with
        | false => rw [hb] at h; cases h
        | true =>
          rw [hb] at h; cases h
          have hlt := blt_iff.1 hb
          refine ⟨.pointer (some ⟨c, off + x.2 + n * i.size, none⟩), ?_, by simp only [VR]; exact ⟨c, x, hc, by rw [Nat.add_right_comm]; rfl⟩⟩
          simp [Instr.indexAt, asIntOf, run_underlying ht, run_sizeOf w hi, hlt, add_none]
      · cases h
    · cases h
  · rename_i b off kk n
    simp only [VR] at hu hk
    obtain ⟨c, x, hc, rfl⟩ := hu
    subst hk
    split at h
    · rename_i len e ht
      split at h
      · rename_i i hi
        cases hb : Nat.blt n len with
        | false => rw [hb] at h; cases h
        | true =>
          rw [hb] at h; cases h
          have hlt := blt_iff.1 hb
          refine ⟨.pointer (some ⟨c, off + x.2 + n * i.size, none⟩), ?_, by simp only [VR]; exact ⟨c, x, hc, by rw [Nat.add_right_comm]; rfl⟩⟩
          simp [Instr.indexAt, asIntOf, run_underlying ht, run_sizeOf w hi, hlt, add_none, Instr.sureAddr]
      · cases h
    · cases h
  · cases h
end
end Go.Ai
/- Readers, further: numbers, nil, slices, fields, aggregates. -/
namespace Go.Ai
set_option linter.unusedSimpArgs false

/-! numbers -/
def lim : IntKind → Nat
  | .i8 => 128 | .u8 => 256 | .i16 => 32768 | .u16 => 65536 | .i32 => 2147483648 | .u32 => 4294967296 | .i64 => 9223372036854775808 | .u64 => 18446744073709551616
def neg : IntKind → Bool
  | .i8 | .i16 | .i32 | .i64 => true
  | _ => false
theorem wrap_fit (k : IntKind) (n : Int) (h1 : k.min ≤ n) (h2 : n ≤ k.max) : k.wrap n = n := by
  cases k <;> simp [IntKind.min, IntKind.max, IntKind.bits, IntKind.signed] at h1 h2 <;> simp [IntKind.wrap, IntKind.bits, IntKind.signed] <;> omega
/-- wrapped, quickly where it fits -/
def wr (k : IntKind) (n : Int) : AV :=
  match n with
  | .ofNat m => bif Nat.blt m (lim k) then .i k (.ofNat m) else .i k (k.wrap (.ofNat m))
  | .negSucc m => bif neg k && Nat.blt m (lim k) then .i k (.negSucc m) else .i k (k.wrap (.negSucc m))
theorem wr_eq (k : IntKind) (n : Int) : wr k n = .i k (k.wrap n) := by
  cases n with
  | ofNat m =>
    simp only [wr]
    cases hb : Nat.blt m (lim k) with
    | false => rfl
    | true =>
      have := blt_iff.1 hb
      simp only [cond_true]
      congr 1
      cases k <;> simp only [lim] at this <;> simp [IntKind.wrap, IntKind.bits, IntKind.signed] <;> omega
  | negSucc m =>
    simp only [wr]
    cases hb : (neg k && Nat.blt m (lim k)) with
    | false => rfl
    | true =>
      rw [Bool.and_eq_true] at hb
      have := blt_iff.1 hb.2
      simp only [cond_true]
      congr 1
      have hm := hb.1
      symm
      apply wrap_fit
      · rw [Int.negSucc_eq]; cases k <;> simp only [neg, Bool.false_eq_true] at hm <;> simp only [lim] at this <;> simp [IntKind.min, IntKind.bits, IntKind.signed] <;> omega
      · rw [Int.negSucc_eq]; cases k <;> simp [IntKind.max, IntKind.bits, IntKind.signed] <;> omega
def ilt (x y : Int) : Bool :=
  match x, y with
  | .ofNat a, .ofNat b => Nat.blt a b
  | .ofNat _, .negSucc _ => false
  | .negSucc _, .ofNat _ => true
  | .negSucc a, .negSucc b => Nat.blt b a
theorem ilt_eq (x y : Int) : ilt x y = decide (x < y) := by
  have hb : ∀ a b : Nat, Nat.blt a b = decide (a < b) := fun a b => by
    by_cases h : a < b
    · rw [blt_iff.2 h]; simp [h]
    · cases hb : Nat.blt a b with
      | false => simp [h]
      | true => exact absurd (blt_iff.1 hb) h
  cases x <;> cases y <;> simp only [ilt, hb] <;> simp only [Int.ofNat_eq_natCast, decide_eq_decide] <;> first | omega | (symm; simp; omega) | skip
def ieq (x y : Int) : Bool :=
  match x, y with
  | .ofNat a, .ofNat b => Nat.beq a b
  | .negSucc a, .negSucc b => Nat.beq a b
  | _, _ => false
theorem ieq_eq (x y : Int) : ieq x y = (x == y) := by
  have hb : ∀ a b : Nat, Nat.beq a b = decide (a = b) := fun a b => by
    by_cases h : a = b
    · subst h; simp
    · cases hb : Nat.beq a b with
      | false => simp [h]
      | true => exact absurd (Nat.eq_of_beq_eq_true hb) h
  rw [Bool.eq_iff_iff, beq_iff_eq]
  cases x <;> cases y <;> simp only [ieq, hb, decide_eq_true_eq] <;> simp <;> omega
noncomputable def aInt (op : BinOp) (k : IntKind) (x y : Int) : Option AV :=
  match op with
  | .add => some (wr k (Int.add x y))
  | .sub => some (wr k (Int.sub x y))
  | .mul => some (wr k (Int.mul x y))
  | .eql => some (.b (ieq x y))
  | .neq => some (.b (Bool.not (ieq x y)))
  | .lss => some (.b (ilt x y))
  | .leq => some (.b (Bool.not (ilt y x)))
  | .gtr => some (.b (ilt y x))
  | .geq => some (.b (Bool.not (ilt x y)))
  | _ => none


theorem aInt_ok {P : Program} {op : BinOp} {k : IntKind} {x y : Int} {v : AV} (t : TypeId) (w : World) (h : aInt op k x y = some v) : ∃ u, (binOp op t (.int k x) (.int k y)).run P w = .ok u w ∧ ∀ ρ env, VR ρ env v u := by
  unfold aInt at h
  split at h <;> cases h <;> refine ⟨_, by simp [binOp, Op.intArith, Op.intCmp]; rfl, fun ρ env => ?_⟩ <;> simp only [wr_eq, VR, ieq_eq, ilt_eq]
  all_goals first
    | rfl
    | (congr 1; by_cases h : x = y <;> simp [h]; done)
    | (congr 1; rw [Bool.eq_iff_iff]; simp; done)

end Go.Ai
/- Readers, further: strings, nil, slices, fields, aggregates. -/
namespace Go.Ai

section
variable {P : Program} {env : Nat → Value} {ρ : Ren} {H : Heap} {w : World}

theorem strV_size (l x : Nat) : (strV l x).size = l := by simp [strV, ByteArray.size, bytesOf_length]
theorem strV_data (l x : Nat) : (strV l x).data.toList = (bytesOf l x).map UInt8.ofNat := rfl
theorem map_u8_inj : ∀ {a b : List Nat}, (∀ x ∈ a, x < 256) → (∀ x ∈ b, x < 256) → a.map UInt8.ofNat = b.map UInt8.ofNat → a = b
  | [], [], _, _, _ => rfl
  | x :: a, [], _, _, h => by simp at h
  | [], y :: b, _, _, h => by simp at h
  | x :: a, y :: b, ha, hb, h => by
    simp only [List.map_cons, List.cons.injEq] at h
    have h1 := congrArg UInt8.toNat h.1
    rw [UInt8.toNat_ofNat_of_lt' (ha x (by simp)), UInt8.toNat_ofNat_of_lt' (hb y (by simp))] at h1
    rw [h1, map_u8_inj (fun z hz => ha z (by simp [hz])) (fun z hz => hb z (by simp [hz])) h.2]
theorem bytesOf_lt (l x : Nat) : ∀ b ∈ bytesOf l x, b < 256 := by
  intro b hb
  simp only [bytesOf, List.mem_map] at hb
  obtain ⟨i, _, rfl⟩ := hb
  exact byteAt_lt x i
noncomputable def strEq (l a l' b : Nat) : Bool := Nat.beq l l' && Nat.beq (Nat.mod a (Nat.pow 256 l)) (Nat.mod b (Nat.pow 256 l))
theorem strEq_ok (l a l' b : Nat) : ((strV l a).toList == (strV l' b).toList) = strEq l a l' b := by
  rw [Bool.eq_iff_iff, beq_iff_eq, ByteArray.toList_eq, ByteArray.toList_eq, strV_data, strV_data]
  simp only [strEq, Bool.and_eq_true]
  constructor
  · intro h
    have h1 := map_u8_inj (bytesOf_lt l a) (bytesOf_lt l' b) h
    have h2 : l = l' := by have := congrArg List.length h1; simpa [bytesOf_length] using this
    subst h2
    exact ⟨by simp, by have := (bytesOf_eq_iff l a b).1 h1; exact (Nat.beq_eq).symm ▸ this⟩
  · rintro ⟨h1, h2⟩
    have h1 := Nat.eq_of_beq_eq_true h1
    subst h1
    have h2 := Nat.eq_of_beq_eq_true h2
    rw [(bytesOf_eq_iff l a b).2 h2]

/-- == where one side is nil, and of Booleans -/
def nilEq (P : Program) (t : TypeId) (x y : AV) : Option Bool :=
  match P.underlying t, x, y with
  | some .bool, .b p, .b q => some (p == q)
  | some (.pointer _), .pn, .pn => some true
  | some (.pointer _), .p _ _, .pn => some false
  | some (.pointer _), .pn, .p _ _ => some false
  | some (.slice _), .sn, .sn => some true
  | some (.slice _), .sl _ _ _ _ _, .sn => some false
  | some (.slice _), .sn, .sl _ _ _ _ _ => some false
  | some (.slice _), .se, .sn => some false
  | some (.slice _), .sr _ _, .sn => some false
  | some (.map _ _), .mn, .mn => some true
  | some (.map _ _), .m _, .mn => some false
  | some (.func _ _ _), .fz, .fz => some true
  | some (.func _ _ _), .fn _ _ _, .fz => some false
  | some (.interface _), .ifc _ _, .inil => some false
  | some (.interface _), .inil, .ifc _ _ => some false
  | _, _, _ => none
theorem equal_step (t : TypeId) (u k : Value) : Op.equal t u k = Op.equalIn (9999 + 1) t u k := rfl
theorem nilEq_ok {t : TypeId} {x y : AV} {u k : Value} {b : Bool} (hu : VR ρ env x u) (hk : VR ρ env y k) (h : nilEq P t x y = some b) :
    (Op.equal t u k).run P w = .ok b w ∧ (∀ op cx cy, eqGuard op t cx cy u k = pure ()) ∧ binOp .eql t u k = (do pure (.bool (← Op.equal t u k)) : Sem Value) ∧ binOp .neq t u k = (do pure (.bool (!(← Op.equal t u k))) : Sem Value) := by
  unfold nilEq at h
  split at h <;> cases h <;> rename_i ht <;> simp only [VR] at hu hk <;>
    (try (obtain ⟨c, x, hc, rfl⟩ := hu)) <;> (try (obtain ⟨c, x, a, hc, rfl, _⟩ := hu)) <;> (try (obtain ⟨c', x', hc', rfl⟩ := hk)) <;> (try (obtain ⟨g, l, k, _, rfl, _, _⟩ := hu)) <;> (try (obtain ⟨c, x, rfl, _⟩ := hu)) <;> (try (obtain ⟨c, x, rfl⟩ := hu)) <;> (try (obtain ⟨c', x', rfl, _⟩ := hk)) <;> (try (obtain ⟨x, rfl, _⟩ := hu)) <;> (try (obtain ⟨x', rfl, _⟩ := hk)) <;> (try subst hu) <;> (try subst hk) <;>
    refine ⟨?_, ?_, rfl, rfl⟩ <;> (try (rw [equal_step, Op.equalIn]; simp only [Sem.run_bind, run_underlying ht, Result.andThen_ok]; rfl)) <;> (try (intro op cx cy; cases op <;> rfl))

noncomputable def aBin (P : Program) (op : BinOp) (t : TypeId) (x y : AV) : Option AV :=
  match x, y with
  | .i k a, .i k' b => bif decide (k = k') then aInt op k a b else none
  | .s l a, .s l' b => match op with
    | .eql => some (.b (strEq l a l' b))
    | .neq => some (.b (Bool.not (strEq l a l' b)))
    | _ => none
  | x, y => match op with
    | .eql => (nilEq P t x y).map .b
    | .neq => (nilEq P t x y).map fun b => .b (Bool.not b)
    | _ => none
theorem aBin_ok {op : BinOp} {t : TypeId} {cx cy : Operand} {x y : AV} {u k : Value} {v : AV} (hu : VR ρ env x u) (hk : VR ρ env y k) (h : aBin P op t x y = some v) :
    ∃ z, (do eqGuard op t cx cy u k; binOp op t u k : Sem Value).run P w = .ok z w ∧ VR ρ env v z := by
  unfold aBin at h
  split at h
  · rename_i ka a kb b
    simp only [VR] at hu hk
    subst hu hk
    cases hd : decide (ka = kb) with
    | false => rw [hd] at h; cases h
    | true =>
      rw [hd] at h
      have := of_decide_eq_true hd
      subst this
      obtain ⟨z, h1, h2⟩ := aInt_ok (P := P) t w h
      refine ⟨z, ?_, h2 _ _⟩
      have e : eqGuard op t cx cy (.int ka a) (.int ka b) = pure () := by cases op <;> rfl
      simp [e, h1]
  · rename_i l a l' b
    simp only [VR] at hu hk
    subst hu hk
    have e : eqGuard op t cx cy (.string (strV l a)) (.string (strV l' b)) = pure () := by cases op <;> rfl
    split at h <;> cases h
    · exact ⟨.bool ((strV l a).toList == (strV l' b).toList), by simp [e, binOp, Op.stringOp], by simp only [VR, strEq_ok]⟩
    · exact ⟨.bool (!((strV l a).toList == (strV l' b).toList)), by simp [e, binOp, Op.stringOp], by simp only [VR, strEq_ok]⟩
  · split at h
    · obtain ⟨b, h1, rfl⟩ := Option.map_eq_some_iff.1 h
      obtain ⟨h2, h3, h4, h5⟩ := nilEq_ok (w := w) hu hk h1
      exact ⟨.bool b, by simp [h3, h4, h2], by simp only [VR]⟩
    · obtain ⟨b, h1, rfl⟩ := Option.map_eq_some_iff.1 h
      obtain ⟨h2, h3, h4, h5⟩ := nilEq_ok (w := w) hu hk h1
      exact ⟨.bool (!b), by simp [h3, h5, h2], by simp only [VR]⟩
    · cases h
end
end Go.Ai
/- Readers, further: slices, fields, aggregates, functions, lengths, maps. -/
namespace Go.Ai

section
variable {P : Program} {env : Nat → Value} {ρ : Ren} {H : Heap} {w : World}

/-- a bound: none, or a number that is not below nought -/
inductive Bd : Option Nat → Option Value → Prop
  | none : Bd none none
  | some (k : IntKind) (n : Nat) : Bd (some n) (some (.int k (n : Int)))
theorem run_sliceBound (k : IntKind) (n y : Nat) (c : BoundsCode) (h : n ≤ y) : (Instr.sliceBound (.int k (n : Int)) y c).run P w = .ok n w := by
  have : (n : Int) ≤ (y : Int) := by omega
  simp [Instr.sliceBound, asIntOf, this]
theorem run_sliceBounds (b : Bool) (len cap : Nat) {lo hi mx : Option Nat} {vl vh vm : Option Value} (h1 : Bd lo vl) (h2 : Bd hi vh) (h3 : Bd mx vm)
    (hm : mx.getD cap ≤ cap) (hh : ∀ n, hi = some n → n ≤ mx.getD cap) (hl : lo.getD 0 ≤ hi.getD len) (hx : mx.isSome = true → hi.isSome = true) :
    (Instr.sliceBounds b len cap vl vh vm).run P w = .ok (lo.getD 0, hi.getD len, mx.getD cap) w := by
  cases h3 with
  | none =>
    cases h2 with
    | none =>
      cases h1 with
      | none => simp [Instr.sliceBounds]
      | some kl l => simp only [Option.getD_some, Option.getD_none] at hl; simp [Instr.sliceBounds, run_sliceBound _ _ _ _ hl]
    | some kh h =>
      have hh' := hh h rfl
      simp only [Option.getD_none] at hh'
      cases h1 with
      | none => simp [Instr.sliceBounds, run_sliceBound _ _ _ _ hh']
      | some kl l => simp only [Option.getD_some] at hl; simp [Instr.sliceBounds, run_sliceBound _ _ _ _ hh', run_sliceBound _ _ _ _ hl]
  | some km m =>
    cases h2 with
    | none => simp at hx
    | some kh h =>
      have hh' := hh h rfl
      simp only [Option.getD_some] at hh' hm
      cases h1 with
      | none => simp [Instr.sliceBounds, run_sliceBound _ _ _ _ hh', run_sliceBound _ _ _ _ hm]
      | some kl l => simp only [Option.getD_some] at hl; simp [Instr.sliceBounds, run_sliceBound _ _ _ _ hh', run_sliceBound _ _ _ _ hl, run_sliceBound _ _ _ _ hm]

noncomputable def bd (ng : Nat) (T : TT AV) (x : Option Operand) : Option (Option Nat) :=
  match x with
  | none => some none
  | some y => match ev ng T y with
    | some (.i _ (.ofNat n)) => some (some n)
    | _ => none
theorem bd_ok {ng : Nat} {T : TT AV} {a : Act} (hg : GOK ng ρ) (hF : FR ρ env T a.tmps) {x : Option Operand} {n : Option Nat} (h : bd ng T x = some n) : Bd n (x.map a.eval) := by
  unfold bd at h
  split at h
  · cases h; exact .none
  · rename_i y
    split at h
    · rename_i k m hm
      cases h
      have := ev_ok hg hF hm
      simp only [VR] at this
      simp only [Option.map_some, this]
      exact .some k m
    · cases h

/-- the new slice over known places: where it begins is not told where nothing is left and the row may be longer than is known -/
noncomputable def subSl (b off sz : Nat) (op : Bool) (l h m : Nat) : AV :=
  bif Nat.beq m l then (bif op then .sr b (Nat.add off (Nat.mul l sz)) else .sl b off (Nat.sub h l) (Nat.sub m l) false) else .sl b (Nat.add off (Nat.mul l sz)) (Nat.sub h l) (Nat.sub m l) op
noncomputable def aSlice (P : Program) (t : TypeId) (x : AV) (lo hi mx : Option Nat) : Option AV :=
  match x with
  | .s len y => match P.underlying t, mx with
    | some .string, none => let h := hi.getD len; let l := lo.getD 0
      bif Nat.ble h len && Nat.ble l h then some (.s (Nat.sub h l) (cut y l (Nat.sub h l))) else none
    | _, _ => none
  | .sl b off len cap op => match P.underlying t with
    | some (.slice e) => match P.info? e with
      | some i => match mx with
        | none => let h := hi.getD len; let l := lo.getD 0
          bif Nat.ble h cap && (Nat.ble l h && Nat.ble h (hi.getD cap)) then some (subSl b off i.size op l h cap) else none
        | some m => match hi with
          | some h => let l := lo.getD 0
            bif Nat.ble m cap && (Nat.ble h m && Nat.ble l h) then some (subSl b off i.size false l h m) else none
          | none => none
      | none => none
    | _ => none
  | .sn => match P.underlying t with
    | some (.slice e) => match P.info? e with
      | some _ => bif Nat.beq (lo.getD 0) 0 && (Nat.beq (hi.getD 0) 0 && (Nat.beq (mx.getD 0) 0 && (mx.isNone || hi.isSome))) then some .sn else none
      | none => none
    | _ => none
  | .p b off => match P.underlying t with
    | some (.array n e) => match P.info? e with
      | some i => match mx with
        | none => let h := hi.getD n; let l := lo.getD 0
          bif Nat.ble h n && Nat.ble l h then some (subSl b off i.size false l h n) else none
        | some _ => none
      | none => none
    | _ => none
  | _ => none
theorem beq_true {a b : Nat} (h : Nat.beq a b = true) : a = b := Nat.eq_of_beq_eq_true h
theorem beq_false {a b : Nat} (h : Nat.beq a b = false) : a ≠ b := fun e => by subst e; simp at h
theorem ble_true {a b : Nat} (h : Nat.ble a b = true) : a ≤ b := Nat.le_of_ble_eq_true h

theorem strV_extract (len y l h : Nat) (hl : l ≤ h) (hh : h ≤ len) : (strV len y).extract l h = strV (h - l) (cut y l (h - l)) := by
  apply ByteArray.ext
  apply Array.toList_inj.1
  have e : ((strV len y).extract l h).data.toList = ((strV len y).data.toList.drop l).take (h - l) := by
    rw [ByteArray.data_extract, Array.toList_extract, List.extract_eq_take_drop]
  rw [e, strV_data, strV_data, ← List.map_drop, ← List.map_take]
  congr 1
  apply List.ext_getElem?
  intro i
  rw [List.getElem?_take, List.getElem?_drop, bytesOf_get, bytesOf_get, byteAt_cut]
  by_cases hi : i < h - l
  · have : l + i < len := by omega
    simp [hi, this]
  · simp [hi]

theorem subSl_ok {b off sz c l h m : Nat} {x : Nat × Nat} {op : Bool} (hc : ρ b = some (c, x)) (hlh : l ≤ h) (hhm : h ≤ m) :
    VR ρ env (subSl b off sz op l h m) (.slice (if m + (if op then x.1 else 0) = l then some ⟨c, off + x.2, none⟩ else (some (⟨c, off + x.2, none⟩ : Addr)).map (·.add (l * sz))) (h - l) (m + (if op then x.1 else 0) - l)) := by
  unfold subSl
  cases hb : Nat.beq m l with
  | true =>
    have := beq_true hb
    subst this
    have : h - m = 0 := by omega
    cases op with
    | true =>
      simp only [cond_true, VR, this, if_true]
      by_cases hx : x.1 = 0
      · exact ⟨c, x, ⟨c, off + x.2, none⟩, hc, by simp [hx], fun h => absurd hx h⟩
      · refine ⟨c, x, ⟨c, off + x.2 + m * sz, none⟩, hc, ?_, fun _ => by rw [Nat.add_right_comm]; rfl⟩
        rw [if_neg (by omega)]
        simp only [Option.map_some, add_none]
        congr 1
        omega
    | false =>
      simp only [cond_true, cond_false, VR, this]
      exact ⟨c, x, hc, by simp; omega⟩
  | false =>
    have hne := beq_false hb
    simp only [cond_false, VR]
    refine ⟨c, x, hc, ?_⟩
    have h1 : ¬ m + (if op then x.1 else 0) = l := by omega
    rw [if_neg h1]
    simp only [Option.map_some, add_none, Nat.add_right_comm off x.2]
    congr 1
    cases op <;> simp <;> omega

theorem aSlice_ok {t : TypeId} {x : AV} {u : Value} {v : AV} {lo hi mx : Option Nat} {vl vh vm : Option Value} (h1 : Bd lo vl) (h2 : Bd hi vh) (h3 : Bd mx vm) (hu : VR ρ env x u) (h : aSlice P t x lo hi mx = some v) :
    ∃ y, (Instr.sliceAt t u vl vh vm).run P w = .ok y w ∧ VR ρ env v y := by
  unfold aSlice at h
  split at h
  · rename_i len y
    simp only [VR] at hu
    subst hu
    split at h
    · rename_i ht
      cases h3
      dsimp only at h
      cases hb : (Nat.ble (hi.getD len) len && Nat.ble (lo.getD 0) (hi.getD len)) with
      | false => rw [hb] at h; cases h
      | true =>
        rw [hb] at h; cases h
        rw [Bool.and_eq_true] at hb
        have hh := ble_true hb.1
        have hl := ble_true hb.2
        have hB := run_sliceBounds (P := P) (w := w) false len len h1 h2 .none (by simp) (fun n e => by subst e; simpa using hh) hl (by simp)
        refine ⟨.string ((strV len y).extract (lo.getD 0) (hi.getD len)), ?_, by simp only [VR]; rw [strV_extract _ _ _ _ hl hh]; rfl⟩
        simp [Instr.sliceAt, run_underlying ht, Instr.slice, strV_size, hB]
    · cases h
  · rename_i b off len cap op
    simp only [VR] at hu
    obtain ⟨c, x, hc, rfl⟩ := hu
    split at h
    · rename_i e ht
      split at h
      · rename_i i hi'
        split at h
        · cases h3
          dsimp only at h
          cases hb : (Nat.ble (hi.getD len) cap && (Nat.ble (lo.getD 0) (hi.getD len) && Nat.ble (hi.getD len) (hi.getD cap))) with
          | false => rw [hb] at h; cases h
          | true =>
            rw [hb] at h; cases h
            rw [Bool.and_eq_true, Bool.and_eq_true] at hb
            have hh := ble_true hb.1
            have hl := ble_true hb.2.1
            have hB := run_sliceBounds (P := P) (w := w) true len (cap + if op then x.1 else 0) h1 h2 .none (by simp) (fun n e => by subst e; simp at hh ⊢; omega) hl (by simp)
            simp only [Option.getD_none] at hB
            refine ⟨_, ?_, subSl_ok hc hl hh⟩
            simp [Instr.sliceAt, run_underlying ht, Instr.slice, hB, run_sizeOf w hi']
        · rename_i m
          split at h
          · rename_i hv
            dsimp only at h
            cases hb : (Nat.ble m cap && (Nat.ble hv m && Nat.ble (lo.getD 0) hv)) with
            | false => rw [hb] at h; cases h
            | true =>
              rw [hb] at h; cases h
              rw [Bool.and_eq_true, Bool.and_eq_true] at hb
              have hm := ble_true hb.1
              have hh := ble_true hb.2.1
              have hl := ble_true hb.2.2
              have hB := run_sliceBounds (P := P) (w := w) true len (cap + if op then x.1 else 0) h1 h2 h3 (by simp; omega) (fun n e => by cases e; simpa using hh) (by simpa using hl) (by simp)
              simp only [Option.getD_some] at hB
              refine ⟨_, ?_, subSl_ok (op := false) hc hl hh⟩
              simp [Instr.sliceAt, run_underlying ht, Instr.slice, hB, run_sizeOf w hi']
          · cases h
      · cases h
    · cases h
  · simp only [VR] at hu
    subst hu
    split at h
    · rename_i e ht
      split at h
      · rename_i i hi'
        cases hb : (Nat.beq (lo.getD 0) 0 && (Nat.beq (hi.getD 0) 0 && (Nat.beq (mx.getD 0) 0 && (mx.isNone || hi.isSome)))) with
        | false => rw [hb] at h; cases h
        | true =>
          rw [hb] at h; cases h
          rw [Bool.and_eq_true, Bool.and_eq_true, Bool.and_eq_true] at hb
          have hl := beq_true hb.1
          have hh := beq_true hb.2.1
          have hm := beq_true hb.2.2.1
          have hi4 : mx.isSome = true → hi.isSome = true := by
            intro e
            have h4 := hb.2.2.2
            rw [Bool.or_eq_true] at h4
            rcases h4 with h4 | h4
            · cases mx <;> simp at e h4
            · exact h4
          have hB := run_sliceBounds (P := P) (w := w) true 0 0 h1 h2 h3 (by omega) (fun n e => by subst e; simp at hh; omega) (by omega) hi4
          rw [hl, hh, hm] at hB
          refine ⟨.slice none 0 0, ?_, by simp only [VR]⟩
          simp [Instr.sliceAt, run_underlying ht, Instr.slice, hB, run_sizeOf w hi']
      · cases h
    · cases h
  · rename_i b off
    simp only [VR] at hu
    obtain ⟨c, x, hc, rfl⟩ := hu
    split at h
    · rename_i n e ht
      split at h
      · rename_i i hi'
        split at h
        · cases h3
          dsimp only at h
          cases hb : (Nat.ble (hi.getD n) n && Nat.ble (lo.getD 0) (hi.getD n)) with
          | false => rw [hb] at h; cases h
          | true =>
            rw [hb] at h; cases h
            rw [Bool.and_eq_true] at hb
            have hh := ble_true hb.1
            have hl := ble_true hb.2
            have hB := run_sliceBounds (P := P) (w := w) false n n h1 h2 .none (by simp) (fun n e => by subst e; simpa using hh) hl (by simp)
            simp only [Option.getD_none] at hB
            have hs := subSl_ok (env := env) (off := off) (sz := i.size) (op := false) hc hl hh
            refine ⟨_, ?_, hs⟩
            simp [Instr.sliceAt, run_underlying ht, Instr.sureAddr, hB, run_sizeOf w hi']
            split <;> rfl
        · cases h
      · cases h
    · cases h
  · cases h
end
end Go.Ai
/- Readers, further: fields, aggregates, functions, lengths, maps. -/
namespace Go.Ai

section
variable {P : Program} {env : Nat → Value} {ρ : Ren} {H : Heap} {w : World}

theorem bytes_rel : ∀ l : List Nat, VRs ρ env (l.map fun b => AV.i .u8 (Int.ofNat b)) (l.map fun b => Value.int .u8 (Int.ofNat b))
  | [] => by simp [VRs]
  | z :: l => by simp only [List.map_cons, VRs, VR]; exact ⟨_, _, rfl, rfl, bytes_rel l⟩
def avCells : AV → List AV
  | .ag cs => cs
  | .by_ len x => (bytesOf len x).map fun b => .i .u8 (Int.ofNat b)
  | v => [v]
theorem avCells_ok (h1 : ∀ n, (env n).oneCell' = true) {v : AV} {u : Value} (h : VR ρ env v u) : VRs ρ env (avCells v) u.cells.toList := by
  cases v <;> simp only [VR] at h
  case by_ len x => subst h; simpa [avCells, Value.cells] using bytes_rel _
  case ag cs => obtain ⟨l, rfl, h⟩ := h; simpa [avCells, Value.cells] using h
  case q n =>
    have := h1 n
    rw [← h] at this
    subst h
    have e : (env n).cells = #[env n] := by cases hx : env n <;> simp_all [Value.cells, Value.oneCell']
    rw [e]
    simp [avCells, VRs, VR]
  all_goals first
    | (subst h; simp [avCells, Value.cells, VRs, VR]; done)
    | (obtain ⟨c, x, hc, rfl⟩ := h; simp only [avCells, Value.cells, VRs, VR]; exact ⟨_, _, rfl, ⟨c, x, hc, rfl⟩, rfl⟩)
    | (obtain ⟨g, c, x, hg, rfl, h⟩ := h; simp only [avCells, Value.cells, VRs, VR]; exact ⟨_, _, rfl, ⟨g, c, x, hg, rfl, h⟩, rfl⟩)
    | (obtain ⟨c, x, rfl, h⟩ := h; simp only [avCells, Value.cells, VRs, VR]; exact ⟨_, _, rfl, ⟨c, x, rfl, h⟩, rfl⟩)
    | (obtain ⟨c, x, rfl⟩ := h; simp only [avCells, Value.cells, VRs, VR]; exact ⟨_, _, rfl, ⟨c, x, rfl⟩, rfl⟩)
    | (obtain ⟨c, rfl, h⟩ := h; simp only [avCells, Value.cells, VRs, VR]; exact ⟨_, _, rfl, ⟨c, rfl, h⟩, rfl⟩)

/-! a field of a value -/
def fieldPart (P : Program) (t : TypeId) (f : Nat) : Option (Nat × Bool × Nat) :=
  match P.underlying t with
  | some (.struct fs) => (fs[f]?).bind fun g => (tyAgg P g.type).map fun x => (g.offset, x)
  | _ => none
noncomputable def aField (P : Program) (t : TypeId) (f : Nat) (x : AV) : Option AV :=
  match x with
  | .ag cs => match fieldPart P t f with
    | some (off, true, n) => some (.ag ((cs.drop off).take n))
    | some (off, false, _) => cs[off]?
    | none => none
  | _ => none
theorem run_part_agg {t : TypeId} {n off : Nat} (l : List Value) (ht : tyAgg P t = some (true, n)) : (part t ⟨l⟩ off).run P w = .ok (.agg ⟨(l.drop off).take n⟩) w := by
  obtain ⟨h1, h2⟩ := tyAgg_ok w ht
  simp only [part, Sem.run_bind, h1, h2, Result.andThen_ok, if_true, Sem.run_pure]
  congr 2
  apply Array.toList_inj.1
  rw [Array.toList_extract, List.extract_eq_take_drop]
  simp
theorem run_part_one {t : TypeId} {n off : Nat} (l : List Value) {u : Value} (ht : tyAgg P t = some (false, n)) (hu : l[off]? = some u) : (part t ⟨l⟩ off).run P w = .ok u w := by
  obtain ⟨h1, h2⟩ := tyAgg_ok w ht
  have hu' : (⟨l⟩ : Array Value)[off]? = some u := by simpa using hu
  simp [part, h1, hu']
theorem aField_ok {t : TypeId} {f : Nat} {x : AV} {u : Value} {v : AV} (hu : VR ρ env x u) (h : aField P t f x = some v) : ∃ y, (Instr.field t u f).run P w = .ok y w ∧ VR ρ env v y := by
  unfold aField at h
  split at h
  · rename_i cs
    simp only [VR] at hu
    obtain ⟨l, rfl, hl⟩ := hu
    have hfp : ∀ off b n, fieldPart P t f = some (off, b, n) → ∃ fs g, P.underlying t = some (.struct fs) ∧ fs[f]? = some g ∧ g.offset = off ∧ tyAgg P g.type = some (b, n) := fun off b n e => by
      unfold fieldPart at e
      split at e
      · rename_i fs hs
        simp only [Option.bind_eq_some_iff, Option.map_eq_some_iff] at e
        obtain ⟨g, h1, y, h2, h3⟩ := e
        cases h3
        exact ⟨fs, g, hs, h1, rfl, h2⟩
      · cases e
    split at h
    · rename_i off n hf
      obtain ⟨fs, g, h1, h2, rfl, h4⟩ := hfp _ _ _ hf
      cases h
      exact ⟨.agg ⟨(l.drop g.offset).take n⟩, by simp [Instr.field, run_underlying h1, h2, asAgg, run_part_agg l h4], by simp only [VR]; exact ⟨_, rfl, (hl.drop _).take _⟩⟩
    · rename_i off n hf
      obtain ⟨fs, g, h1, h2, rfl, h4⟩ := hfp _ _ _ hf
      obtain ⟨y, h5, h6⟩ := hl.get h
      exact ⟨y, by simp [Instr.field, run_underlying h1, h2, asAgg, run_part_one l h4 h5], h6⟩
    · cases h
  · cases h

/-! put together -/
def spl {α : Type} (cs : List α) (off : Nat) (vs : List α) : List α := cs.take off ++ (vs ++ cs.drop (off + vs.length))
theorem spl_length {α : Type} (cs : List α) (off : Nat) (vs : List α) (h : off + vs.length ≤ cs.length) : (spl cs off vs).length = cs.length := by
  simp [spl]; omega
theorem VRs.spl {cs vs : List AV} {l k : List Value} (h : VRs ρ env cs l) (h' : VRs ρ env vs k) (off : Nat) : VRs ρ env (spl cs off vs) (Go.Ai.spl l off k) := by
  unfold Go.Ai.spl
  rw [h'.length]
  exact (h.take off).append (h'.append (h.drop _))
theorem foldl_set (off : Nat) : ∀ (vs : List Value) (k : Nat) (cs : List Value), off + k + vs.length ≤ cs.length →
    (vs.zipIdx k).foldl (fun (cs : Array Value) (c : Value × Nat) => cs.setIfInBounds (off + c.2) c.1) ⟨cs⟩ = ⟨spl cs (off + k) vs⟩
  | [], k, cs, h => by simp [spl]
  | v :: vs, k, cs, h => by
    simp only [List.length_cons] at h
    rw [List.zipIdx_cons, List.foldl_cons]
    have e : (⟨cs⟩ : Array Value).setIfInBounds (off + k) v = ⟨cs.set (off + k) v⟩ := by simp
    rw [e, foldl_set off vs (k + 1) (cs.set (off + k) v) (by simp; omega)]
    congr 1
    unfold spl
    apply List.ext_getElem?
    intro i
    simp only [List.getElem?_append, List.length_take, List.length_set, List.getElem?_take, List.getElem?_drop, List.length_cons, List.getElem?_set, List.getElem?_cons]
    by_cases h1 : i < off + k
    · have a1 : i < min (off + (k + 1)) cs.length := by omega
      have a2 : i < min (off + k) cs.length := by omega
      have a3 : i < off + (k + 1) := by omega
      have a4 : ¬ off + k = i := by omega
      simp [a1, a2, a3, h1, a4]
    · by_cases h2 : i = off + k
      · subst h2
        have a1 : off + k < min (off + (k + 1)) cs.length := by omega
        have a2 : ¬ off + k < min (off + k) cs.length := by omega
        have a3 : off + k < off + (k + 1) := by omega
        have a5 : off + k < cs.length := by omega
        have a6 : off + k - min (off + k) cs.length = 0 := by omega
        simp [a1, a2, a3, a5, a6]
      · have a1 : ¬ i < min (off + (k + 1)) cs.length := by omega
        have a2 : ¬ i < min (off + k) cs.length := by omega
        have a6 : i - min (off + k) cs.length = (i - min (off + (k + 1)) cs.length) + 1 := by omega
        have m1 : min (off + (k + 1)) cs.length = off + (k + 1) := by omega
        have m0 : min (off + k) cs.length = off + k := by omega
        rw [m1, m0] at a6
        rw [m1] at a1
        rw [m0] at a2
        simp only [m0, m1, a1, a2, if_false, a6, Nat.add_lt_add_iff_right, Nat.add_one_ne_zero, Nat.add_sub_cancel]
        by_cases h3 : i - (off + (k + 1)) < vs.length
        · simp [h3]
        · have a7 : ¬ off + k = off + (k + 1) + vs.length + (i - (off + (k + 1)) - vs.length) := by omega
          simp only [h3, if_false, a7]
          congr 1; omega

noncomputable def fillA (place : Nat → Option (Nat × Nat)) (cells : List AV) (l : List (Nat × AV)) : Option (List AV) :=
  match l with
  | [] => some cells
  | (i, v) :: rest => match place i with
    | some (off, size) => let c := avCells v
      bif Nat.beq c.length size && Nat.ble (Nat.add off size) cells.length then fillA place (spl cells off c) rest else none
    | none => none
inductive Parts (ρ : Ren) (env : Nat → Value) : List (Nat × AV) → List (Nat × Value) → Prop
  | nil : Parts ρ env [] []
  | cons {i : Nat} {v : AV} {u : Value} {l k} : VR ρ env v u → Parts ρ env l k → Parts ρ env ((i, v) :: l) ((i, u) :: k)
theorem fillA_ok (h1 : ∀ n, (env n).oneCell' = true) {place : Nat → Option (Nat × Nat)} : ∀ {l : List (Nat × AV)} {k : List (Nat × Value)} {cells : List AV} {cs : List Value} {r : List AV},
    Parts ρ env l k → VRs ρ env cells cs → fillA place cells l = some r → ∃ rs, Instr.fill place ⟨cs⟩ k = some ⟨rs⟩ ∧ VRs ρ env r rs
  | [], _, cells, cs, r, .nil, hc, h => by
    simp only [fillA, Option.some.injEq] at h
    subst h
    exact ⟨cs, rfl, hc⟩
  | (i, v) :: l, _, cells, cs, r, .cons (u := u) hv hp, hc, h => by
    simp only [fillA] at h
    split at h
    · rename_i off size hpl
      cases hb : (Nat.beq (avCells v).length size && Nat.ble (Nat.add off size) cells.length) with
      | false => rw [hb] at h; cases h
      | true =>
        rw [hb] at h
        simp only [cond_true] at h
        rw [Bool.and_eq_true] at hb
        have e1 := beq_true hb.1
        have e2 : off + size ≤ cells.length := ble_true hb.2
        have hv' := avCells_ok h1 hv
        have e3 : u.cells.size = size := by have := hv'.length; simp at this; omega
        have e4 : cs.length = cells.length := hc.length
        obtain ⟨rs, h5, h6⟩ := fillA_ok h1 hp (hc.spl hv' off) h
        refine ⟨rs, ?_, h6⟩
        have hf := foldl_set off u.cells.toList 0 cs (by simp; omega)
        simp only [Nat.add_zero] at hf
        have hz : u.cells.zipIdx.foldl (fun (cs : Array Value) (c : Value × Nat) => cs.setIfInBounds (off + c.2) c.1) ⟨cs⟩ = ⟨spl cs off u.cells.toList⟩ := by
          rw [← hf, ← Array.foldl_toList, Array.toList_zipIdx]
        simp only [Instr.fill, hpl]
        rw [if_neg (by simp [e3]; omega)]
        exact (congrArg (fun z => Instr.fill place z _) hz).trans h5
    · cases h

def placesOf (P : Program) : List Field → Option (List (Nat × Nat))
  | [] => some []
  | f :: l => match P.info? f.type with
    | some i => match placesOf P l with
      | some r => some ((f.offset, i.size) :: r)
      | none => none
    | none => none
theorem run_places (w : World) : ∀ (l : List Field) (r : List (Nat × Nat)), placesOf P l = some r → (l.mapM fun f => do pure (f.offset, ← sizeOf f.type) : Sem (List (Nat × Nat))).run P w = .ok r w
  | [], r, h => by simp only [placesOf, Option.some.injEq] at h; subst h; simp
  | f :: l, r, h => by
    simp only [placesOf] at h
    split at h
    · rename_i i hi
      split at h
      · rename_i r' hr
        cases h
        have := run_places w l r' hr
        simp only [List.mapM_cons, Sem.run_bind, run_sizeOf w hi, Result.andThen_ok, Sem.run_pure, this]
      · cases h
    · cases h
def zeroOf (P : Program) (t : TypeId) : Option (List AV) := ((P.info? t).bind (·.zero)).bind fun z => (ofV z).map avCells
theorem zeroOf_ok (h1 : ∀ n, (env n).oneCell' = true) (w : World) {t : TypeId} {l : List AV} (h : zeroOf P t = some l) : ∃ z, (zeroValue t).run P w = .ok z w ∧ VRs ρ env l z.cells.toList := by
  simp only [zeroOf, Option.bind_eq_some_iff, Option.map_eq_some_iff] at h
  obtain ⟨z, ⟨i, hi, hz⟩, v, hv, rfl⟩ := h
  exact ⟨z, by simp [zeroValue, typeInfo, hi, hz], avCells_ok h1 (ofV_ok ρ env z v hv)⟩
/-- of a struct or an array: its cells, and where parts lie -/
def shapeOf (P : Program) (t : TypeId) : Option (List AV × List (Nat × Nat) × Option Nat) :=
  match P.underlying t with
  | some (.struct fs) => (zeroOf P t).bind fun z => (placesOf P fs.toList).map fun p => (z, p, none)
  | some (.array _ e) => (zeroOf P t).bind fun z => (P.info? e).map fun i => (z, [], some i.size)
  | _ => none
noncomputable def aBuild (P : Program) (t : TypeId) (parts : List (Nat × AV)) : Option AV :=
  match shapeOf P t with
  | some (z, p, none) => (fillA (fun i => p[i]?) z parts).map .ag
  | some (z, _, some n) => (fillA (fun i => some (i * n, n)) z parts).map .ag
  | none => none
theorem aBuild_ok (h1 : ∀ n, (env n).oneCell' = true) {t : TypeId} {l : List (Nat × AV)} {k : List (Nat × Value)} {v : AV} (hp : Parts ρ env l k) (h : aBuild P t l = some v) :
    ∃ y, (Instr.build t ⟨k⟩).run P w = .ok y w ∧ VR ρ env v y := by
  unfold aBuild at h
  split at h
  · rename_i z p hs
    unfold shapeOf at hs
    split at hs
    · rename_i fs ht
      simp only [Option.bind_eq_some_iff, Option.map_eq_some_iff] at hs
      obtain ⟨z', hz, p', hp', he⟩ := hs
      cases he
      obtain ⟨r, hr, rfl⟩ := Option.map_eq_some_iff.1 h
      obtain ⟨zv, h2, h3⟩ := zeroOf_ok h1 w hz
      obtain ⟨rs, h4, h5⟩ := fillA_ok h1 hp h3 hr
      refine ⟨.agg ⟨rs⟩, ?_, by simp only [VR]; exact ⟨rs, rfl, h5⟩⟩
      have hm : (fs.mapM fun f => do pure (f.offset, ← sizeOf f.type) : Sem (Array (Nat × Nat))).run P w = .ok ⟨p⟩ w := by
        rw [Array.mapM_eq_mapM_toList, Sem.run_map, run_places w _ _ hp']
        rfl
      have hz' : (⟨zv.cells.toList⟩ : Array Value) = zv.cells := rfl
      have hpl : (fun i : Nat => (⟨p⟩ : Array (Nat × Nat))[i]?) = fun i : Nat => p[i]? := by funext i; simp
      simp only [Instr.build, Sem.run_bind, h2, Result.andThen_ok, run_underlying ht, hm, hpl]
      rw [← hz', h4]
      rfl
    · rename_i n e ht
      simp only [Option.bind_eq_some_iff, Option.map_eq_some_iff] at hs
      obtain ⟨z', hz, i, hi, he⟩ := hs
      cases he
    · cases hs
  · rename_i z p n hs
    unfold shapeOf at hs
    split at hs
    · rename_i fs ht
      simp only [Option.bind_eq_some_iff, Option.map_eq_some_iff] at hs
      obtain ⟨z', hz, p', hp', he⟩ := hs
      cases he
    · rename_i m e ht
      simp only [Option.bind_eq_some_iff, Option.map_eq_some_iff] at hs
      obtain ⟨z', hz, i, hi, he⟩ := hs
      cases he
      obtain ⟨r, hr, rfl⟩ := Option.map_eq_some_iff.1 h
      obtain ⟨zv, h2, h3⟩ := zeroOf_ok h1 w hz
      obtain ⟨rs, h4, h5⟩ := fillA_ok h1 hp h3 hr
      refine ⟨.agg ⟨rs⟩, ?_, by simp only [VR]; exact ⟨rs, rfl, h5⟩⟩
      have hz' : (⟨zv.cells.toList⟩ : Array Value) = zv.cells := rfl
      simp only [Instr.build, Sem.run_bind, h2, Result.andThen_ok, run_underlying ht, run_sizeOf w hi]
      rw [← hz', h4]
      rfl
    · cases hs
  · cases h
end
end Go.Ai
