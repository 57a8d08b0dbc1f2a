/- Part N1 of the proof: see the last text of the claim. No condition of its own. -/
import Derived.Test.YtddagflhafkbnaaGreatDoorQ3
import Derived.Test.YtddagflhafkbnaaGreatDoorK8
import Derived.Test.YtddagflhafkbnaaGreatDoorCards
import Derived.Test.YtddagflhafkbnaaGreatDoorP1
import Derived.WalkKit
import Derived.ProofKit
import Derived.OpenShut
import Derived.LaidLaws
import Derived.Test.YtddagflhafkbnaaGreatDoorTie
import Derived.Deep.DeepHandedRow
import Derived.Test.YtddagflhafkbnaaGreatDoorM4
set_option linter.all false
set_option autoImplicit false
namespace Go.Abs
theorem Yjr:Yx9 ()=some true:=Yy6 E (k:=100000) (by kernel_rfl)
end Go.Abs
namespace Go.Proofs.YtddagflhafkbnaaGreatDoor.cache
open Go.ChangeShapes Go.WideShapes Go.ChangeAt Go.RowKit
theorem own:ownKnob Tryz.prog.godebug=none:=by kernel_rfl
theorem laidOut:Go.laidOutB Tryz.prog=true:=by kernel_rfl
theorem tyOK (t:TypeId) (u:Abs.Ty) (h:(Abs.tyB Tryz.prog u).1 t=true):Abs.TyOK Tryz.prog u t:=(Abs.Yni u).1 t h
theorem maxLen_some {W:World} (h:W.ShapedOpen Tryz.prog):∃ n,W.cell? ⟨0,0,none⟩=some (.int .i64 n):=
 cell_of_shapedOpen_int (zero:=#[.int .i64 0]) (t:=3) h (of_decide_eq_true (by kernel_rfl)) (by kernel_rfl) rfl (by kernel_rfl) (by kernel_rfl) (by kernel_rfl)
def laid : List (String × DataW Unit) := [("unicode/utf8.acceptRanges", Rows.laid_unicode_utf8_acceptRanges), ("unicode/utf8.first", Rows.laid_unicode_utf8_first)]
theorem globs {W:World} (hL:laidMet Tryz.prog laid W) (hsh:W.ShapedOpen Tryz.prog):Abs.Glob Abs.E W (fun b=> b < W.heap.size):=by
 refine ⟨fun g t x hg=> ?_,fun g k hg=> ?_⟩
 ·have hg':(g,(⟨t,x⟩:Σ t:Abs.Ty,t.den))∈[(2,(⟨(.arr 256 (.int .u8)),Abs.YX3⟩:Σ t:Abs.Ty,t.den)),(3,(⟨(.arr 16 (.st (.pair (.int .u8) (.int .u8)))),Abs.YW3⟩:Σ t:Abs.Ty,t.den))]:=hg
  simp only [List.mem_cons,List.not_mem_nil,or_false] at hg'
  rcases hg' with e | e
  ·cases e
   exact Abs.Yci hL (name := "unicode/utf8.first") (d := Rows.laid_unicode_utf8_first) (.tail _ (.head _)) (by kernel_rfl) (tid := 341) (by kernel_rfl) (tyOK 341 _ (by kernel_rfl)) (by kernel_rfl) (by kernel_rfl) (by kernel_rfl) (fun _ h => h)
  ·cases e
   exact Abs.Yci hL (name := "unicode/utf8.acceptRanges") (d := Rows.laid_unicode_utf8_acceptRanges) (.head _) (by kernel_rfl) (tid := 344) (by kernel_rfl) (tyOK 344 _ (by kernel_rfl)) (by kernel_rfl) (by kernel_rfl) (by kernel_rfl) (fun _ h => h)
 ·have hg':(g,k)∈[((0:Nat),IntKind.i64)]:=hg
  simp only [List.mem_cons,List.not_mem_nil,or_false] at hg'
  cases hg'
  obtain ⟨n,hn⟩:=maxLen_some hsh
  refine ⟨?_,n,hn⟩
  show 0 < W.heap.size
  rcases Nat.lt_or_ge 0 W.heap.size with e | e
  ·exact e
  ·simp [World.cell?,Array.getElem?_eq_none e] at hn
theorem lim_of {H:Type} {t:Abs.Ty} {d:DataW H} {x:t.den} (h:(Abs.unD H t).1 d=some x) (hb:Rows.uptoBulk d<=1048576):t.lim 1048576 x:=
 (Abs.YZt (β:=Rows.uptoBulk) (βs:=Rows.uptoBulkAll) (fun d ds=> by simp only [Rows.uptoBulkAll]; omega)
  (fun d=> by cases d <;> first | (simp only [Rows.uptoBulk]; omega) | (rename_i l; cases l <;> (simp only [Rows.uptoBulk]; omega)))
  (fun s=> by simp only [Rows.uptoBulk]; omega) (fun ds=> by simp only [Rows.uptoBulk]; omega) (fun ds sp=> by simp only [Rows.uptoBulk]; omega) t).1 d x h hb
def layIn (cs:Array Value):Obj->Obj
 | .cells _ t frozen=> .cells cs t frozen
 | o=> o
def ints (k:IntKind) (l:List Int):Array Value:=(l.map fun n=> Value.int k n).toArray
def pairs (k:IntKind) (l:List (Int×Int)):Array Value:=(l.flatMap fun x=> [Value.int k x.1,Value.int k x.2]).toArray
def lays:List (Nat×Array Value):=[(2,ints .u8 Abs.YX3),(3,pairs .u8 Abs.YW3)]
noncomputable def laidWorld (os:Os):World:=
 { World.holding Tryz.prog os ⟨#[],#[],[]⟩ with heap:=lays.foldl (fun h x=> h.modify x.1 (layIn x.2)) (World.holding Tryz.prog os ⟨#[],#[],[]⟩).heap }
def risingB:Nat->List Nat->Bool
 | _,[]=> true
 | n,m::l=> Nat.blt n m&&risingB m l
theorem rising_gt:∀ (l:List Nat) (n:Nat),risingB n l=true->∀ m∈l,n < m
 | [],_,_,_,hm=> by cases hm
 | x::l,n,h,m,hm=> by
  simp only [risingB,Bool.and_eq_true,Nat.blt_eq] at h
  rcases List.mem_cons.1 hm with rfl | hm
  ·exact h.1
  ·have:=rising_gt l x h.2 m hm; omega
theorem rising_nodup:∀ (l:List Nat) (n:Nat),risingB n l=true->l.Nodup
 | [],_,_=> List.nodup_nil
 | x::l,n,h=> by
  have h':=h
  simp only [risingB,Bool.and_eq_true,Nat.blt_eq] at h'
  refine List.nodup_cons.2 ⟨fun hx=> ?_,rising_nodup l x h'.2⟩
  have:=rising_gt l x h'.2 x hx
  omega
def key:MemPlace->Nat
 | .cell b off=> 1+1000*([0,9,1,0,9,9].getD b 99)+off
 | .map _=> 0
theorem laidMet_of_keys {P:Program} {w:World} {l:List (String×DataW Unit)} (fuel:Nat) (h:(DataW.laidRun P w fuel (l.map (·.1))).map (·.1)=some l)
  (hn:(DataW.laidRun P w fuel (l.map (·.1))).map (fun x=> risingB 0 (x.2.map key))=some true) (hr:(DataW.laidRun P w fuel (l.map (·.1))).map (fun x=> laidRowsB P w x.2)=some true):laidMet P l w:=by
 cases hx:DataW.laidRun P w fuel (l.map (·.1)) with
 | none=> simp [hx] at h
 | some x=>
  obtain ⟨l',ps⟩:=x
  simp only [hx,Option.map_some,Option.some.injEq] at h hn hr
  subst h
  exact laidMet_of_run fuel hx (decide_eq_true (List.Pairwise.of_map key (fun a b hne e=> hne (congrArg key e)) (rising_nodup _ 0 hn))) hr
end Go.Proofs.YtddagflhafkbnaaGreatDoor.cache
namespace Go.Proofs.YtddagflhafkbnaaGreatDoor.CacheNever
open cache Go.ChangeShapes Go.WideShapes Go.ChangeAt Go.RowKit
theorem htys:Tryz.f4.params.toList.all (fun t=> Tryz.prog.readableRec t&&decide (t < Tryz.prog.types.size))=true:=by kernel_rfl
set_option maxRecDepth 100000 in
theorem contract (H:Type) (enc:TypeId×Value->H) (W:World) (base:Nat) (args:Array Value) (ds gs:List (DataW H)) (before:List MemPlace)
  (hval:∀ (j:Nat) t v,Tryz.f4.params[j]? =some t->args[j]? =some v->Value.okWide Tryz.prog W .any base t v)
  (hW:DataW.Whole enc Tryz.prog Tryz.f4.params.toList Rows.cacheNeverSpec.vars false W args.toList ds gs before) (hL:laidMetH Tryz.prog Rows.cacheNeverUptoRow.laid W) (hsh:W.ShapedOpen Tryz.prog)
  (hk:Rows.uptoSmall H (ds++gs)=true):
  Calls Tryz.prog 4 args W fun e W'=> ∃ v,e=.returned v/\Rows.cacheNeverSpec.post enc Tryz.prog Tryz.f4 false true false false W args v W':=by
 have hL':laidMet Tryz.prog laid W:=hL
 have hW':=hW
 obtain ⟨p,q,hA0,hV,rfl,hfz,hnd⟩:=hW
 have hA:DataW.TrodAll enc Tryz.prog W 0 (fun _=> true) true Tryz.f4.params.toList args.toList ds p:=hA0
 rw [Tryz.params4] at hA hval
 obtain ⟨v0,vs0,d0,ds0,p0,q0,hargs,rfl,rfl,h0,r0⟩:=trodAll_cons hA
 obtain ⟨rfl,rfl,rfl⟩:=trodAll_nil r0
 obtain rfl:args=#[v0]:=by cases args; simp_all
 obtain ⟨rfl,rfl⟩:=trodVars_none hV
 obtain ⟨x0,cs0,rfl,hx0,hr0,hi0⟩:=Abs.Y2m (t:=(.sl false Abs.T40)) (sp:=fun _=> true) (fun _=> rfl) (fz:=fun b=> b < W.heap.size) (fun _ h=> h) (tyOK 22 ((.sl false Abs.T40)) (by kernel_rfl)) rfl (hval 0 22 v0 rfl rfl) h0
 have hlaw:Abs.Call Abs.E 4 x0=some true:=by
  have hl0:(.sl false Abs.T40:Abs.Ty).lim 1048576 x0:=lim_of hx0 (by
   have:=of_decide_eq_true hk
   simp only [List.cons_append,List.nil_append,Rows.uptoBulkAll] at this
   omega)
  have hS:Abs.okL x0:=⟨by have:=hl0.1; omega,fun e he=> by
   have:=hl0.2 e he
   exact ⟨Nat.le_trans this.2.1.2.1 (by omega),Nat.le_trans this.2.1.2.2.1.2.1 (by omega),Nat.le_trans this.2.2.1 (by omega)⟩⟩
  exact Abs.Yir x0 hS Abs.Yjr
 have hcall:=Abs.Ytf hlaw W (fun b=> b < W.heap.size) [Abs.mkV ((.sl false Abs.T40):Abs.Ty).isAgg cs0] [] ⟨cs0,rfl,hr0⟩ List.nodup_nil (by simp) (fun _ h=> h) (globs hL' hsh)
 refine hcall.mono fun e W' ⟨hkeep,fz',_,hout⟩=> ?_
 obtain ⟨rs,X',rfl,hres,_⟩:=hout
 obtain ⟨cs',rfl,rfl⟩:∃ cs',rs=[Abs.mkV false cs']/\cs'=[.bool true]:=by
  obtain ⟨_,cs',h1,h2,_⟩:=hres
  exact ⟨cs',h1,h2⟩
 exact ⟨.bool true,rfl,Abs.Yms laidOut htys rfl hW' (Abs.Y5r hkeep) (tb:=4) (by kernel_rfl) (by kernel_rfl) rfl rfl rfl⟩
end Go.Proofs.YtddagflhafkbnaaGreatDoor.CacheNever
