/- For the law SchemaRound: what SchemaValue and ReadSchema compute, as plain functions. No condition. -/
import Derived.Test.YtlofkjdcapbohaaGreatDoorCfO
namespace Go.Proofs.YtlofkjdcapbohaaGreatDoor.PConfKeeps
open Go.RowKit Go.Proofs.YtlofkjdcapbohaaGreatDoorW.PrintWords Go.Proofs.YtlofkjdcapbohaaGreatDoorW.PrintLast Go.Proofs.YtlofkjdcapbohaaGreatDoorW.PrintMore
set_option linter.unusedVariables false
set_option linter.unusedSimpArgs false
abbrev vT : S25 := ⟨6, false, 0, ⟨#[]⟩, [], []⟩
abbrev vL (l : List S25) : S25 := ⟨5, false, 0, ⟨#[]⟩, l, []⟩
abbrev vS (s : ByteArray) : S25 := ⟨3, false, 0, s, [], []⟩
abbrev vB (b : Bool) : S25 := ⟨1, b, 0, ⟨#[]⟩, [], []⟩
abbrev vI (n : Int) : S25 := ⟨2, false, n, ⟨#[]⟩, [], []⟩
def fBnd (f : S44) (t : S25) : Option S25 := if f.f3 = true then (cput t ⟨#[109, 97, 120]⟩ (vI f.f5)).bind fun t => cput t ⟨#[109, 105, 110]⟩ (vI f.f4) else some t
def fOne (f : S44) (t : S25) : Option S25 := if f.f6.length = 0 then some t else if f.f6.length ≤ 2000000 then cput t ⟨#[111, 110, 101, 111, 102]⟩ (vL (f.f6.map vS)) else none
def fDef (k : Nat) (f : S44) (t : S25) : Option S25 := if f.f7.f0 = 0 then some t else (Fcl k f.f7).bind fun c => cput t ⟨#[100, 101, 102, 97, 117, 108, 116]⟩ c
/-- a field's table -/
def fieldV (k : Nat) (f : S44) : Option S25 :=
 (cput vT ⟨#[114, 111, 117, 116, 101]⟩ (vS f.f0)).bind fun t => (kName f.f1).bind fun kn => (cput t ⟨#[107, 105, 110, 100]⟩ (vS kn)).bind fun t => (cput t ⟨#[110, 101, 101, 100]⟩ (vB f.f2)).bind fun t => (fBnd f t).bind fun t => (fOne f t).bind fun t => fDef k f t
/-- the tables of n fields from the i-th on -/
def fTs (k : Nat) (l : List S44) : Nat → Nat → Option (List S25)
 | 0, _ => some []
 | n + 1, i => (fieldV k (rd_T44 l (i : Int))).bind fun t => (fTs k l n (i + 1)).bind fun ts => some (t :: ts)
def cSV (k : Nat) (l : List S44) (st : Bool) : Option (S25 × Int) :=
 (cCS k l).bind fun e => if e = 0 then (fTs k l l.length 0).bind fun ts => if ts.length ≤ 1000000 then (cput vT ⟨#[102, 105, 101, 108, 100, 115]⟩ (vL ts)).bind fun v => (cput v ⟨#[115, 116, 114, 105, 99, 116]⟩ (vB st)).bind fun v => (Fck k v).bind fun e => if e = 0 then some (v, 0) else some (z25, e) else none else some (z25, e)
/-- what ReadSchema finds right in a value that SchemaValue has written -/
structure RS (k : Nat) (v : S25) (l : List S44) (F a : S25) (b1 b2 : Bool) : Prop where
 ck : Fck k v = some 0
 wk : WK v F a b1 b2
 wn : WN v F b2
 n : F.f4.length = l.length ∧ l.length ≤ 100
 it : ∀ i : Nat, i < l.length → (rd_T25 F.f4 (i : Int)).f5.length ≤ (rd_T25 F.f4 (i : Int)).f4.length ∧ cLack (rd_T25 F.f4 (i : Int)) = some false ∧ rFl k (rd_T25 F.f4 (i : Int)) (rd_T25 F.f4 (i : Int)).f5.length 0 z44 = some (rd_T44 l (i : Int))
 cs : cCS k l = some 0
 sz : ∀ x ∈ l, x.f0.size ≤ maxLen
end Go.Proofs.YtlofkjdcapbohaaGreatDoor.PConfKeeps
