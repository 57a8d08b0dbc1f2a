/- Part N1 of the proof: see the last text of the claim. No condition of its own. -/
import Derived.Test.YtddagflhafkbnaaGreatDoorQ1
import Derived.Test.YtddagflhafkbnaaGreatDoorK8
import Derived.Test.YtddagflhafkbnaaGreatDoorCards
import Derived.Test.YtddagflhafkbnaaGreatDoorP1
import Derived.WalkKit
import Derived.ProofKit
import Derived.OpenShut
import Derived.LaidLaws
import Derived.Test.YtddagflhafkbnaaGreatDoorTie
import Derived.Deep.DeepHandedRow
import Derived.Test.YtddagflhafkbnaaGreatDoorM3
set_option linter.all false
set_option autoImplicit false
namespace Go.Abs
theorem Ypr:Yu9 ()=some true:=Yt5 E (k:=100000) (by kernel_rfl)
end Go.Abs
namespace Go.Proofs.YtddagflhafkbnaaGreatDoor.host
open Go.ChangeShapes Go.WideShapes Go.ChangeAt Go.RowKit
theorem own:ownKnob Tryz.prog.godebug=none:=by kernel_rfl
theorem laidOut:Go.laidOutB Tryz.prog=true:=by kernel_rfl
theorem tyOK (t:TypeId) (u:Abs.Ty) (h:(Abs.tyB Tryz.prog u).1 t=true):Abs.TyOK Tryz.prog u t:=(Abs.YHi u).1 t h
theorem maxLen_some {W:World} (h:W.ShapedOpen Tryz.prog):∃ n,W.cell? ⟨0,0,none⟩=some (.int .i64 n):=
 cell_of_shapedOpen_int (zero:=#[.int .i64 0]) (t:=3) h (of_decide_eq_true (by kernel_rfl)) (by kernel_rfl) rfl (by kernel_rfl) (by kernel_rfl) (by kernel_rfl)
def laid : List (String × DataW Unit) := [("math/bits.deBruijn32tab", Rows.laid_math_bits_deBruijn32tab), ("math/bits.deBruijn64tab", Rows.laid_math_bits_deBruijn64tab), ("internal/strconv.uint64pow10", Rows.laid_internal_strconv_uint64pow10), ("unicode/utf8.acceptRanges", Rows.laid_unicode_utf8_acceptRanges), ("unicode/utf8.first", Rows.laid_unicode_utf8_first)]
theorem globs {W:World} (hL:laidMet Tryz.prog laid W) (hsh:W.ShapedOpen Tryz.prog):Abs.Glob Abs.E W (fun b=> b < W.heap.size):=by
 refine ⟨fun g t x hg=> ?_,fun g k hg=> ?_⟩
 ·have hg':(g,(⟨t,x⟩:Σ t:Abs.Ty,t.den))∈[(2,(⟨(.arr 256 (.int .u8)),Abs.YQ3⟩:Σ t:Abs.Ty,t.den)),(3,(⟨(.arr 16 (.st (.pair (.int .u8) (.int .u8)))),Abs.YP3⟩:Σ t:Abs.Ty,t.den)),(1,(⟨(.arr 20 (.int .u64)),Abs.Yj8⟩:Σ t:Abs.Ty,t.den)),(4,(⟨(.arr 32 (.int .u8)),Abs.Yg9⟩:Σ t:Abs.Ty,t.den)),(5,(⟨(.arr 64 (.int .u8)),Abs.Yh9⟩:Σ t:Abs.Ty,t.den))]:=hg
  simp only [List.mem_cons,List.not_mem_nil,or_false] at hg'
  rcases hg' with e | e | e | e | e
  ·cases e
   exact Abs.Yf6 hL (name := "unicode/utf8.first") (d := Rows.laid_unicode_utf8_first) (.tail _ (.tail _ (.tail _ (.tail _ (.head _))))) (by kernel_rfl) (tid := 341) (by kernel_rfl) (tyOK 341 _ (by kernel_rfl)) (by kernel_rfl) (by kernel_rfl) (by kernel_rfl) (fun _ h => h)
  ·cases e
   exact Abs.Yf6 hL (name := "unicode/utf8.acceptRanges") (d := Rows.laid_unicode_utf8_acceptRanges) (.tail _ (.tail _ (.tail _ (.head _)))) (by kernel_rfl) (tid := 344) (by kernel_rfl) (tyOK 344 _ (by kernel_rfl)) (by kernel_rfl) (by kernel_rfl) (by kernel_rfl) (fun _ h => h)
  ·cases e
   exact Abs.Yf6 hL (name := "internal/strconv.uint64pow10") (d := Rows.laid_internal_strconv_uint64pow10) (.tail _ (.tail _ (.head _))) (by kernel_rfl) (tid := 337) (by kernel_rfl) (tyOK 337 _ (by kernel_rfl)) (by kernel_rfl) (by kernel_rfl) (by kernel_rfl) (fun _ h => h)
  ·cases e
   exact Abs.Yf6 hL (name := "math/bits.deBruijn32tab") (d := Rows.laid_math_bits_deBruijn32tab) (.head _) (by kernel_rfl) (tid := 348) (by kernel_rfl) (tyOK 348 _ (by kernel_rfl)) (by kernel_rfl) (by kernel_rfl) (by kernel_rfl) (fun _ h => h)
  ·cases e
   exact Abs.Yf6 hL (name := "math/bits.deBruijn64tab") (d := Rows.laid_math_bits_deBruijn64tab) (.tail _ (.head _)) (by kernel_rfl) (tid := 349) (by kernel_rfl) (tyOK 349 _ (by kernel_rfl)) (by kernel_rfl) (by kernel_rfl) (by kernel_rfl) (fun _ h => h)
 ·have hg':(g,k)∈[((0:Nat),IntKind.i64)]:=hg
  simp only [List.mem_cons,List.not_mem_nil,or_false] at hg'
  cases hg'
  obtain ⟨n,hn⟩:=maxLen_some hsh
  refine ⟨?_,n,hn⟩
  show 0 < W.heap.size
  rcases Nat.lt_or_ge 0 W.heap.size with e | e
  ·exact e
  ·simp [World.cell?,Array.getElem?_eq_none e] at hn
def layIn (cs:Array Value):Obj->Obj
 | .cells _ t frozen=> .cells cs t frozen
 | o=> o
def ints (k:IntKind) (l:List Int):Array Value:=(l.map fun n=> Value.int k n).toArray
def pairs (k:IntKind) (l:List (Int×Int)):Array Value:=(l.flatMap fun x=> [Value.int k x.1,Value.int k x.2]).toArray
def lays:List (Nat×Array Value):=[(1,ints .u64 Abs.Yj8),(2,ints .u8 Abs.YQ3),(3,pairs .u8 Abs.YP3),(4,ints .u8 Abs.Yg9),(5,ints .u8 Abs.Yh9)]
noncomputable def laidWorld (os:Os):World:=
 { World.holding Tryz.prog os ⟨#[],#[],[]⟩ with heap:=lays.foldl (fun h x=> h.modify x.1 (layIn x.2)) (World.holding Tryz.prog os ⟨#[],#[],[]⟩).heap }
def risingB:Nat->List Nat->Bool
 | _,[]=> true
 | n,m::l=> Nat.blt n m&&risingB m l
theorem rising_gt:∀ (l:List Nat) (n:Nat),risingB n l=true->∀ m∈l,n < m
 | [],_,_,_,hm=> by cases hm
 | x::l,n,h,m,hm=> by
  simp only [risingB,Bool.and_eq_true,Nat.blt_eq] at h
  rcases List.mem_cons.1 hm with rfl | hm
  ·exact h.1
  ·have:=rising_gt l x h.2 m hm; omega
theorem rising_nodup:∀ (l:List Nat) (n:Nat),risingB n l=true->l.Nodup
 | [],_,_=> List.nodup_nil
 | x::l,n,h=> by
  have h':=h
  simp only [risingB,Bool.and_eq_true,Nat.blt_eq] at h'
  refine List.nodup_cons.2 ⟨fun hx=> ?_,rising_nodup l x h'.2⟩
  have:=rising_gt l x h'.2 x hx
  omega
def key:MemPlace->Nat
 | .cell b off=> 1+1000*([0,2,4,3,0,1].getD b 99)+off
 | .map _=> 0
theorem laidMet_of_keys {P:Program} {w:World} {l:List (String×DataW Unit)} (fuel:Nat) (h:(DataW.laidRun P w fuel (l.map (·.1))).map (·.1)=some l)
  (hn:(DataW.laidRun P w fuel (l.map (·.1))).map (fun x=> risingB 0 (x.2.map key))=some true) (hr:(DataW.laidRun P w fuel (l.map (·.1))).map (fun x=> laidRowsB P w x.2)=some true):laidMet P l w:=by
 cases hx:DataW.laidRun P w fuel (l.map (·.1)) with
 | none=> simp [hx] at h
 | some x=>
  obtain ⟨l',ps⟩:=x
  simp only [hx,Option.map_some,Option.some.injEq] at h hn hr
  subst h
  exact laidMet_of_run fuel hx (decide_eq_true (List.Pairwise.of_map key (fun a b hne e=> hne (congrArg key e)) (rising_nodup _ 0 hn))) hr
end Go.Proofs.YtddagflhafkbnaaGreatDoor.host
namespace Go.Proofs.YtddagflhafkbnaaGreatDoor.HostPrints
open host Go.ChangeShapes Go.WideShapes Go.ChangeAt Go.RowKit
theorem htys:Tryz.f13.params.toList.all (fun t=> Tryz.prog.readableRec t&&decide (t < Tryz.prog.types.size))=true:=by kernel_rfl
set_option maxRecDepth 100000 in
theorem contract (H:Type) (enc:TypeId×Value->H) (W:World) (base:Nat) (args:Array Value) (ds gs:List (DataW H)) (before:List MemPlace)
  (hval:∀ (j:Nat) t v,Tryz.f13.params[j]? =some t->args[j]? =some v->Value.okWide Tryz.prog W .any base t v)
  (hW:DataW.Whole enc Tryz.prog Tryz.f13.params.toList Rows.hostPrintsSpec.vars false W args.toList ds gs before) (hL:laidMetH Tryz.prog Rows.hostPrintsUptoRow.laid W) (hsh:W.ShapedOpen Tryz.prog)
  (hk:Rows.uptoSmall H (ds++gs)=true):
  Calls Tryz.prog 13 args W fun e W'=> ∃ v,e=.returned v/\Rows.hostPrintsSpec.post enc Tryz.prog Tryz.f13 false true false false W args v W':=by
 have hL':laidMet Tryz.prog laid W:=hL
 have hW':=hW
 obtain ⟨p,q,hA0,hV,rfl,hfz,hnd⟩:=hW
 have hA:DataW.TrodAll enc Tryz.prog W 0 (fun _=> true) true Tryz.f13.params.toList args.toList ds p:=hA0
 rw [Tryz.params13] at hA hval
 obtain ⟨v0,vs0,d0,ds0,p0,q0,hargs,rfl,rfl,h0,r0⟩:=trodAll_cons hA
 obtain ⟨v1,vs1,d1,ds1,p1,q1,rfl,rfl,rfl,h1,r1⟩:=trodAll_cons r0
 obtain ⟨rfl,rfl,rfl⟩:=trodAll_nil r1
 obtain rfl:args=#[v0,v1]:=by cases args; simp_all
 obtain ⟨rfl,rfl⟩:=trodVars_none hV
 obtain ⟨x0,cs0,rfl,hx0,hr0,hi0⟩:=Abs.Y8e (t:=Abs.T35) (sp:=fun _=> true) (fun _=> rfl) (fz:=fun b=> b < W.heap.size) (fun _ h=> h) (tyOK 36 (Abs.T35) (by kernel_rfl)) rfl (hval 0 36 v0 rfl rfl) h0
 obtain ⟨x1,cs1,rfl,hx1,hr1,hi1⟩:=Abs.Y8e (t:=.str) (sp:=fun _=> true) (fun _=> rfl) (fz:=fun b=> b < W.heap.size) (fun _ h=> h) (tyOK 9 (.str) (by kernel_rfl)) rfl (hval 1 9 v1 rfl rfl) h1
 have hlaw:Abs.Call Abs.E 13 (x0,x1)=some true:=by
  have hw:Abs.wfH x0:=by
   have q:=hr0
   obtain ⟨_,_,_,_,_,_,_,e2⟩:=q
   obtain ⟨_,_,_,_,_,_,_,e3⟩:=e2
   obtain ⟨_,_,_,_,_,_,_,e4⟩:=e3
   exact ⟨e4.1,fun y hy=> Abs.YJq (hi0.2.2.2 y hy),(Abs.Yyg hi0.2.2.1).1,(Abs.Yyg hi0.2.2.1).2⟩
  have hd:d1=.lit (.string x1):=by
   cases d1 <;> first
    | (rename_i l; cases l <;> first | (obtain rfl:=Option.some.inj hx1; rfl) | cases hx1)
    | cases hx1
  have hlen:x1.length<=100000000:=by
   subst hd
   have:=of_decide_eq_true hk
   simp only [List.cons_append,List.nil_append,Rows.uptoBulkAll,Rows.uptoBulk] at this
   omega
  exact Abs.Yor x0 x1 hw (by omega) Abs.Ypr
 have hcall:=Abs.YJf hlaw W (fun b=> b < W.heap.size) [Abs.mkV (Abs.T35:Abs.Ty).isAgg cs0,Abs.mkV (.str:Abs.Ty).isAgg cs1] [] ⟨cs0,[Abs.mkV (.str:Abs.Ty).isAgg cs1],[],[],rfl,rfl,hr0,cs1,rfl,hr1⟩ List.nodup_nil (by simp) (fun _ h=> h) (globs hL' hsh)
 refine hcall.mono fun e W' ⟨hkeep,fz',_,hout⟩=> ?_
 obtain ⟨rs,X',rfl,hres,_⟩:=hout
 obtain ⟨cs',rfl,rfl⟩:∃ cs',rs=[Abs.mkV false cs']/\cs'=[.bool true]:=by
  obtain ⟨_,cs',h1,h2,_⟩:=hres
  exact ⟨cs',h1,h2⟩
 exact ⟨.bool true,rfl,Abs.Yis laidOut htys rfl hW' (Abs.Ybr hkeep) (tb:=4) (by kernel_rfl) (by kernel_rfl) rfl rfl rfl⟩
end Go.Proofs.YtddagflhafkbnaaGreatDoor.HostPrints
