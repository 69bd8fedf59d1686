/- The plain structs of the program: printed by types.py. -/
import Derived.Test.YtpdoioeckiiegaaGreatDoorWlN
set_option linter.unusedSimpArgs false
set_option linter.unusedVariables false
namespace Go.Proofs.YtpdoioeckiiegaaGreatDoor.Wl
open Go.RowKit
structure Img where
  Version : Int
  Size : Int
  Digest : Arr UInt8 32
  deriving DecidableEq

def Img.zero : Img := ⟨0, 0, (Arr.zero 0 32)⟩

def Img.cells (x : Img) : List Value := [vi x.Version] ++ ([vi x.Size] ++ (x.Digest.l.flatMap E8))

theorem Img.len (x : Img) : (Img.cells x).length = 34 := by
  simp only [Img.cells, List.length_append, List.length_cons, List.length_nil, (fun a : Arr UInt8 32 => (arr_len E8_len a rfl : _ = 32))]

theorem Img.sc (x : Img) : (Img.cells x).all sc = true := (all_app rfl (all_app rfl (arr_sc E8_one _)))

theorem Img.one (x : Img) : ∀ u ∈ Img.cells x, u.oneCell' = true := fun u hu => by have := List.all_eq_true.1 (Img.sc x) u hu; rwa [sc_one] at this

theorem Img.sub_Version (x : Img) : SubAt (Img.cells x) 0 ([vi x.Version]) := (sub_head (sub_all _))

theorem Img.set_Version (x : Img) (v : Int) : Spl (Img.cells x) 0 ([vi v]) (Img.cells { x with Version := v }) := (spl_head (spl_all rfl))

theorem Img.sub_Size (x : Img) : SubAt (Img.cells x) 1 ([vi x.Size]) := (sub_skip (sub_head (sub_all _)) rfl rfl)

theorem Img.set_Size (x : Img) (v : Int) : Spl (Img.cells x) 1 ([vi v]) (Img.cells { x with Size := v }) := (spl_skip (spl_head (spl_all rfl)) rfl rfl)

theorem Img.sub_Digest (x : Img) : SubAt (Img.cells x) 2 (x.Digest.l.flatMap E8) := (sub_skip (sub_skip (sub_all _) rfl rfl) rfl rfl)

theorem Img.set_Digest (x : Img) (v : Arr UInt8 32) : Spl (Img.cells x) 2 (v.l.flatMap E8) (Img.cells { x with Digest := v }) := (spl_skip (spl_skip (spl_all (by rw [arr_len E8_len _ rfl, arr_len E8_len _ rfl])) rfl rfl) rfl rfl)

structure Mani where
  Name : List UInt8
  Image : Img
  deriving DecidableEq

def Mani.zero : Mani := ⟨[], Img.zero⟩

def Mani.cells (x : Mani) : List Value := [vs x.Name] ++ (Img.cells x.Image)

theorem Mani.len (x : Mani) : (Mani.cells x).length = 35 := by
  simp only [Mani.cells, List.length_append, List.length_cons, List.length_nil, Img.len]

theorem Mani.sc (x : Mani) : (Mani.cells x).all sc = true := (all_app rfl (Img.sc _))

theorem Mani.one (x : Mani) : ∀ u ∈ Mani.cells x, u.oneCell' = true := fun u hu => by have := List.all_eq_true.1 (Mani.sc x) u hu; rwa [sc_one] at this

theorem Mani.sub_Name (x : Mani) : SubAt (Mani.cells x) 0 ([vs x.Name]) := (sub_head (sub_all _))

theorem Mani.set_Name (x : Mani) (v : List UInt8) : Spl (Mani.cells x) 0 ([vs v]) (Mani.cells { x with Name := v }) := (spl_head (spl_all rfl))

theorem Mani.sub_Image (x : Mani) : SubAt (Mani.cells x) 1 (Img.cells x.Image) := (sub_skip (sub_all _) rfl rfl)

theorem Mani.set_Image (x : Mani) (v : Img) : Spl (Mani.cells x) 1 (Img.cells v) (Mani.cells { x with Image := v }) := (spl_skip (spl_all (by rw [Img.len _, Img.len _])) rfl rfl)

structure MetaS where
  Active : Int
  Have : Arr Img 2
  Min : Int
  Phase : Int
  Coming : Img
  Got : Int
  Trials : Int
  deriving DecidableEq

def MetaS.zero : MetaS := ⟨0, (Arr.zero Img.zero 2), 0, 0, Img.zero, 0, 0⟩

def MetaS.cells (x : MetaS) : List Value := [vi x.Active] ++ (x.Have.l.flatMap Img.cells ++ ([vi x.Min] ++ ([vi x.Phase] ++ (Img.cells x.Coming ++ ([vi x.Got] ++ ([vi x.Trials]))))))

theorem MetaS.len (x : MetaS) : (MetaS.cells x).length = 107 := by
  simp only [MetaS.cells, List.length_append, List.length_cons, List.length_nil, (fun a : Arr Img 2 => (arr_len Img.len a rfl : _ = 68)), Img.len]

theorem MetaS.sc (x : MetaS) : (MetaS.cells x).all sc = true := (all_app rfl (all_app (arr_sc Img.one _) (all_app rfl (all_app rfl (all_app (Img.sc _) (all_app rfl rfl))))))

theorem MetaS.one (x : MetaS) : ∀ u ∈ MetaS.cells x, u.oneCell' = true := fun u hu => by have := List.all_eq_true.1 (MetaS.sc x) u hu; rwa [sc_one] at this

theorem MetaS.sub_Active (x : MetaS) : SubAt (MetaS.cells x) 0 ([vi x.Active]) := (sub_head (sub_all _))

theorem MetaS.set_Active (x : MetaS) (v : Int) : Spl (MetaS.cells x) 0 ([vi v]) (MetaS.cells { x with Active := v }) := (spl_head (spl_all rfl))

theorem MetaS.sub_Have (x : MetaS) : SubAt (MetaS.cells x) 1 (x.Have.l.flatMap Img.cells) := (sub_skip (sub_head (sub_all _)) rfl rfl)

theorem MetaS.set_Have (x : MetaS) (v : Arr Img 2) : Spl (MetaS.cells x) 1 (v.l.flatMap Img.cells) (MetaS.cells { x with Have := v }) := (spl_skip (spl_head (spl_all (by rw [arr_len Img.len _ rfl, arr_len Img.len _ rfl]))) rfl rfl)

theorem MetaS.sub_Min (x : MetaS) : SubAt (MetaS.cells x) 69 ([vi x.Min]) := (sub_skip (sub_skip (sub_head (sub_all _)) (arr_len Img.len _ rfl) rfl) rfl rfl)

theorem MetaS.set_Min (x : MetaS) (v : Int) : Spl (MetaS.cells x) 69 ([vi v]) (MetaS.cells { x with Min := v }) := (spl_skip (spl_skip (spl_head (spl_all rfl)) (arr_len Img.len _ rfl) rfl) rfl rfl)

theorem MetaS.sub_Phase (x : MetaS) : SubAt (MetaS.cells x) 70 ([vi x.Phase]) := (sub_skip (sub_skip (sub_skip (sub_head (sub_all _)) rfl rfl) (arr_len Img.len _ rfl) rfl) rfl rfl)

theorem MetaS.set_Phase (x : MetaS) (v : Int) : Spl (MetaS.cells x) 70 ([vi v]) (MetaS.cells { x with Phase := v }) := (spl_skip (spl_skip (spl_skip (spl_head (spl_all rfl)) rfl rfl) (arr_len Img.len _ rfl) rfl) rfl rfl)

theorem MetaS.sub_Coming (x : MetaS) : SubAt (MetaS.cells x) 71 (Img.cells x.Coming) := (sub_skip (sub_skip (sub_skip (sub_skip (sub_head (sub_all _)) rfl rfl) rfl rfl) (arr_len Img.len _ rfl) rfl) rfl rfl)

theorem MetaS.set_Coming (x : MetaS) (v : Img) : Spl (MetaS.cells x) 71 (Img.cells v) (MetaS.cells { x with Coming := v }) := (spl_skip (spl_skip (spl_skip (spl_skip (spl_head (spl_all (by rw [Img.len _, Img.len _]))) rfl rfl) rfl rfl) (arr_len Img.len _ rfl) rfl) rfl rfl)

theorem MetaS.sub_Got (x : MetaS) : SubAt (MetaS.cells x) 105 ([vi x.Got]) := (sub_skip (sub_skip (sub_skip (sub_skip (sub_skip (sub_head (sub_all _)) (Img.len _) rfl) rfl rfl) rfl rfl) (arr_len Img.len _ rfl) rfl) rfl rfl)

theorem MetaS.set_Got (x : MetaS) (v : Int) : Spl (MetaS.cells x) 105 ([vi v]) (MetaS.cells { x with Got := v }) := (spl_skip (spl_skip (spl_skip (spl_skip (spl_skip (spl_head (spl_all rfl)) (Img.len _) rfl) rfl rfl) rfl rfl) (arr_len Img.len _ rfl) rfl) rfl rfl)

theorem MetaS.sub_Trials (x : MetaS) : SubAt (MetaS.cells x) 106 ([vi x.Trials]) := (sub_skip (sub_skip (sub_skip (sub_skip (sub_skip (sub_skip (sub_all _) rfl rfl) (Img.len _) rfl) rfl rfl) rfl rfl) (arr_len Img.len _ rfl) rfl) rfl rfl)

theorem MetaS.set_Trials (x : MetaS) (v : Int) : Spl (MetaS.cells x) 106 ([vi v]) (MetaS.cells { x with Trials := v }) := (spl_skip (spl_skip (spl_skip (spl_skip (spl_skip (spl_skip (spl_all rfl) rfl rfl) (Img.len _) rfl) rfl rfl) rfl rfl) (arr_len Img.len _ rfl) rfl) rfl rfl)

structure RespS where
  Err : Int
  N : Int
  Got : Int
  deriving DecidableEq

def RespS.zero : RespS := ⟨0, 0, 0⟩

def RespS.cells (x : RespS) : List Value := [vi x.Err] ++ ([vi x.N] ++ ([vi x.Got]))

theorem RespS.len (x : RespS) : (RespS.cells x).length = 3 := by
  simp only [RespS.cells, List.length_append, List.length_cons, List.length_nil]

theorem RespS.sc (x : RespS) : (RespS.cells x).all sc = true := (all_app rfl (all_app rfl rfl))

theorem RespS.one (x : RespS) : ∀ u ∈ RespS.cells x, u.oneCell' = true := fun u hu => by have := List.all_eq_true.1 (RespS.sc x) u hu; rwa [sc_one] at this

theorem RespS.sub_Err (x : RespS) : SubAt (RespS.cells x) 0 ([vi x.Err]) := (sub_head (sub_all _))

theorem RespS.set_Err (x : RespS) (v : Int) : Spl (RespS.cells x) 0 ([vi v]) (RespS.cells { x with Err := v }) := (spl_head (spl_all rfl))

theorem RespS.sub_N (x : RespS) : SubAt (RespS.cells x) 1 ([vi x.N]) := (sub_skip (sub_head (sub_all _)) rfl rfl)

theorem RespS.set_N (x : RespS) (v : Int) : Spl (RespS.cells x) 1 ([vi v]) (RespS.cells { x with N := v }) := (spl_skip (spl_head (spl_all rfl)) rfl rfl)

theorem RespS.sub_Got (x : RespS) : SubAt (RespS.cells x) 2 ([vi x.Got]) := (sub_skip (sub_skip (sub_all _) rfl rfl) rfl rfl)

theorem RespS.set_Got (x : RespS) (v : Int) : Spl (RespS.cells x) 2 ([vi v]) (RespS.cells { x with Got := v }) := (spl_skip (spl_skip (spl_all rfl) rfl rfl) rfl rfl)

structure FactS where
  Name : Bool
  Tag : Bool
  Digest : Arr UInt8 32
  Worn : Bool
  deriving DecidableEq

def FactS.zero : FactS := ⟨false, false, (Arr.zero 0 32), false⟩

def FactS.cells (x : FactS) : List Value := [vb x.Name] ++ ([vb x.Tag] ++ (x.Digest.l.flatMap E8 ++ ([vb x.Worn])))

theorem FactS.len (x : FactS) : (FactS.cells x).length = 35 := by
  simp only [FactS.cells, List.length_append, List.length_cons, List.length_nil, (fun a : Arr UInt8 32 => (arr_len E8_len a rfl : _ = 32))]

theorem FactS.sc (x : FactS) : (FactS.cells x).all sc = true := (all_app rfl (all_app rfl (all_app (arr_sc E8_one _) rfl)))

theorem FactS.one (x : FactS) : ∀ u ∈ FactS.cells x, u.oneCell' = true := fun u hu => by have := List.all_eq_true.1 (FactS.sc x) u hu; rwa [sc_one] at this

theorem FactS.sub_Name (x : FactS) : SubAt (FactS.cells x) 0 ([vb x.Name]) := (sub_head (sub_all _))

theorem FactS.set_Name (x : FactS) (v : Bool) : Spl (FactS.cells x) 0 ([vb v]) (FactS.cells { x with Name := v }) := (spl_head (spl_all rfl))

theorem FactS.sub_Tag (x : FactS) : SubAt (FactS.cells x) 1 ([vb x.Tag]) := (sub_skip (sub_head (sub_all _)) rfl rfl)

theorem FactS.set_Tag (x : FactS) (v : Bool) : Spl (FactS.cells x) 1 ([vb v]) (FactS.cells { x with Tag := v }) := (spl_skip (spl_head (spl_all rfl)) rfl rfl)

theorem FactS.sub_Digest (x : FactS) : SubAt (FactS.cells x) 2 (x.Digest.l.flatMap E8) := (sub_skip (sub_skip (sub_head (sub_all _)) rfl rfl) rfl rfl)

theorem FactS.set_Digest (x : FactS) (v : Arr UInt8 32) : Spl (FactS.cells x) 2 (v.l.flatMap E8) (FactS.cells { x with Digest := v }) := (spl_skip (spl_skip (spl_head (spl_all (by rw [arr_len E8_len _ rfl, arr_len E8_len _ rfl]))) rfl rfl) rfl rfl)

theorem FactS.sub_Worn (x : FactS) : SubAt (FactS.cells x) 34 ([vb x.Worn]) := (sub_skip (sub_skip (sub_skip (sub_all _) (arr_len E8_len _ rfl) rfl) rfl rfl) rfl rfl)

theorem FactS.set_Worn (x : FactS) (v : Bool) : Spl (FactS.cells x) 34 ([vb v]) (FactS.cells { x with Worn := v }) := (spl_skip (spl_skip (spl_skip (spl_all rfl) (arr_len E8_len _ rfl) rfl) rfl rfl) rfl rfl)

structure CapS where
  Rights : Int
  From : Int
  Len : Int
  deriving DecidableEq

def CapS.zero : CapS := ⟨0, 0, 0⟩

def CapS.cells (x : CapS) : List Value := [vi x.Rights] ++ ([vi x.From] ++ ([vi x.Len]))

theorem CapS.len (x : CapS) : (CapS.cells x).length = 3 := by
  simp only [CapS.cells, List.length_append, List.length_cons, List.length_nil]

theorem CapS.sc (x : CapS) : (CapS.cells x).all sc = true := (all_app rfl (all_app rfl rfl))

theorem CapS.one (x : CapS) : ∀ u ∈ CapS.cells x, u.oneCell' = true := fun u hu => by have := List.all_eq_true.1 (CapS.sc x) u hu; rwa [sc_one] at this

theorem CapS.sub_Rights (x : CapS) : SubAt (CapS.cells x) 0 ([vi x.Rights]) := (sub_head (sub_all _))

theorem CapS.set_Rights (x : CapS) (v : Int) : Spl (CapS.cells x) 0 ([vi v]) (CapS.cells { x with Rights := v }) := (spl_head (spl_all rfl))

theorem CapS.sub_From (x : CapS) : SubAt (CapS.cells x) 1 ([vi x.From]) := (sub_skip (sub_head (sub_all _)) rfl rfl)

theorem CapS.set_From (x : CapS) (v : Int) : Spl (CapS.cells x) 1 ([vi v]) (CapS.cells { x with From := v }) := (spl_skip (spl_head (spl_all rfl)) rfl rfl)

theorem CapS.sub_Len (x : CapS) : SubAt (CapS.cells x) 2 ([vi x.Len]) := (sub_skip (sub_skip (sub_all _) rfl rfl) rfl rfl)

theorem CapS.set_Len (x : CapS) (v : Int) : Spl (CapS.cells x) 2 ([vi v]) (CapS.cells { x with Len := v }) := (spl_skip (spl_skip (spl_all rfl) rfl rfl) rfl rfl)

structure ChangeS where
  m : MetaS
  r : RespS
  deriving DecidableEq

def ChangeS.zero : ChangeS := ⟨MetaS.zero, RespS.zero⟩

def ChangeS.cells (x : ChangeS) : List Value := MetaS.cells x.m ++ (RespS.cells x.r)

theorem ChangeS.len (x : ChangeS) : (ChangeS.cells x).length = 110 := by
  simp only [ChangeS.cells, List.length_append, List.length_cons, List.length_nil, MetaS.len, RespS.len]

theorem ChangeS.sc (x : ChangeS) : (ChangeS.cells x).all sc = true := (all_app (MetaS.sc _) (RespS.sc _))

theorem ChangeS.one (x : ChangeS) : ∀ u ∈ ChangeS.cells x, u.oneCell' = true := fun u hu => by have := List.all_eq_true.1 (ChangeS.sc x) u hu; rwa [sc_one] at this

theorem ChangeS.sub_m (x : ChangeS) : SubAt (ChangeS.cells x) 0 (MetaS.cells x.m) := (sub_head (sub_all _))

theorem ChangeS.set_m (x : ChangeS) (v : MetaS) : Spl (ChangeS.cells x) 0 (MetaS.cells v) (ChangeS.cells { x with m := v }) := (spl_head (spl_all (by rw [MetaS.len _, MetaS.len _])))

theorem ChangeS.sub_r (x : ChangeS) : SubAt (ChangeS.cells x) 107 (RespS.cells x.r) := (sub_skip (sub_all _) (MetaS.len _) rfl)

theorem ChangeS.set_r (x : ChangeS) (v : RespS) : Spl (ChangeS.cells x) 107 (RespS.cells v) (ChangeS.cells { x with r := v }) := (spl_skip (spl_all (by rw [RespS.len _, RespS.len _])) (MetaS.len _) rfl)

structure Config where
  Name : List UInt8
  Key : List UInt8
  Slot : Int
  Budget : Int
  Quota : Int
  Rights : Int
  First : List UInt8

structure Req where
  Kind : Int
  N : Int
  Bytes : List UInt8

structure WriterS where
  b : List UInt8

structure StreamR where
  h : Arr UInt32 8
  n : UInt64
  rest : List UInt8

structure WriterR where
  B : List UInt8

structure StreamS where
  h : Arr UInt32 8
  count : UInt64
  rest : List UInt8

structure ReaderS where
  b : List UInt8
  bad : Bool

structure ReaderR where
  b : List UInt8
  bad : Bool

structure FlashS where
  b : List UInt8
  wear : List Int
  cut : Int
  mask : List UInt8
  off : Bool
  ops : Int

structure FlashG where
  b0 : Nat
  b1 : Nat
  A3 : Option Addr
  c3 : Nat

abbrev FlashT (g : FlashG) (b : Nat) (x : FlashS) : HP := Pk [At b 0 [.slice (some ⟨g.b0, 0, none⟩) x.b.length x.b.length, .slice (some ⟨g.b1, 0, none⟩) x.wear.length x.wear.length, vi x.cut, .slice g.A3 x.mask.length g.c3, vb x.off, vi x.ops], At g.b0 0 (x.b.flatMap E8), At g.b1 0 (x.wear.flatMap Ei)] [Sl E8 g.A3 g.c3 x.mask]

structure FlashRS where
  b : List UInt8
  wear : List Int
  off : Bool
  cut : Bool
  left : Int
  mask : List UInt8
  Ops : Int

structure FlashRG where
  b0 : Nat
  b1 : Nat
  A5 : Option Addr
  c5 : Nat

abbrev FlashRT (g : FlashRG) (b : Nat) (x : FlashRS) : HP := Pk [At b 0 [.slice (some ⟨g.b0, 0, none⟩) x.b.length x.b.length, .slice (some ⟨g.b1, 0, none⟩) x.wear.length x.wear.length, vb x.off, vb x.cut, vi x.left, .slice g.A5 x.mask.length g.c5, vi x.Ops], At g.b0 0 (x.b.flatMap E8), At g.b1 0 (x.wear.flatMap Ei)] [Sl E8 g.A5 g.c5 x.mask]

structure AreaS where
  from_ : Int
  len : Int
  budget : Int

abbrev AreaG := Unit

abbrev AreaT (fp : Nat) (_ : Unit) (b : Nat) (x : AreaS) : HP := Pk [At b 0 [.pointer (some ⟨fp, 0, none⟩), vi x.from_, vi x.len, vi x.budget]] []

structure AreaRS where
  from_ : Int
  n : Int
  max : Int

abbrev AreaRG := Unit

abbrev AreaRT (fp : Nat) (_ : Unit) (b : Nat) (x : AreaRS) : HP := Pk [At b 0 [.pointer (some ⟨fp, 0, none⟩), vi x.from_, vi x.n, vi x.max]] []

structure TenantS where
  part : AreaS
  cap : CapS
  c : Config
  m : MetaS

structure TenantG where
  b0 : Nat
  g0 : AreaG
  A3 : Option Addr
  c3 : Nat
  A8 : Option Addr
  c8 : Nat

abbrev TenantT (fp : Nat) (g : TenantG) (b : Nat) (x : TenantS) : HP := Pk [At b 0 ([.iface 81 (.pointer (some ⟨g.b0, 0, none⟩))] ++ (CapS.cells x.cap ++ ([vs x.c.Name, .slice g.A3 x.c.Key.length g.c3, vi x.c.Slot, vi x.c.Budget, vi x.c.Quota, vi x.c.Rights, .slice g.A8 x.c.First.length g.c8] ++ (MetaS.cells x.m)))), AreaT fp () g.b0 x.part] [Sl E8 g.A3 g.c3 x.c.Key, Sl E8 g.A8 g.c8 x.c.First]

structure TenantRS where
  A : AreaRS
  c : Config
  p : CapS
  M : MetaS

structure TenantRG where
  b1 : Nat
  g1 : AreaRG
  A3 : Option Addr
  c3 : Nat
  A8 : Option Addr
  c8 : Nat

abbrev TenantRT (fp : Nat) (g : TenantRG) (b : Nat) (x : TenantRS) : HP := Pk [At b 0 ([.pointer (some ⟨fp, 0, none⟩), .pointer (some ⟨g.b1, 0, none⟩), vs x.c.Name, .slice g.A3 x.c.Key.length g.c3, vi x.c.Slot, vi x.c.Budget, vi x.c.Quota, vi x.c.Rights, .slice g.A8 x.c.First.length g.c8] ++ (CapS.cells x.p ++ (MetaS.cells x.M))), AreaRT fp () g.b1 x.A] [Sl E8 g.A3 g.c3 x.c.Key, Sl E8 g.A8 g.c8 x.c.First]

end Go.Proofs.YtpdoioeckiiegaaGreatDoor.Wl
