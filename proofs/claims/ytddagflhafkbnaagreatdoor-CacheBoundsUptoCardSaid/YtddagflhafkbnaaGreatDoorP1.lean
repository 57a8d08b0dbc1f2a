/- Part P1 of the proof: see the last text of the claim. No condition of its own. -/
import Derived.Test.YtddagflhafkbnaaGreatDoorE1
import Derived.Test.YtddagflhafkbnaaGreatDoorK8
import Derived.Test.YtddagflhafkbnaaGreatDoorS1
import Derived.KernelRfl
set_option linter.all false
set_option autoImplicit false
namespace Go.Abs
open Go.Proofs
theorem YQ2 (b:Nat):∀ (vs:List Value) (o:Nat) (w:World) (c:Array Value) (el:TypeId) (fr:Nat×Nat),w.heap[b]? =some (.cells c el fr)->
  ∃ c',(w.setCells b o vs).heap[b]? =some (.cells c' el fr)/\c'.size=c.size/\∀ k,k < c.size->c'[k]? =if o<=k/\k < o+vs.length then vs[k - o]? else c[k]?
 | [],o,w,c,el,fr,h=> ⟨c,h,rfl,fun k _=> by rw [YPm (by simp)]⟩
 | v::vs,o,w,c,el,fr,h=> by
  have h1:(w.setCell ⟨b,o,none⟩ v).heap[b]? =some (.cells (c.setIfInBounds o v) el fr):=by
   simp only [World.setCell,Array.getElem?_modify]
   rw [YQm trivial,h]; rfl
  obtain ⟨c',g1,g2,g3⟩:=YQ2 b vs (o+1) _ _ el fr h1
  refine ⟨c',g1,by rw [g2]; simp,fun k hk=> ?_⟩
  rw [g3 k (by simpa using hk)]
  by_cases e:k=o
  ·subst e
   rw [YPm (by omega),YQm (by simp),Nat.sub_self,Array.getElem?_setIfInBounds_self_of_lt hk]; rfl
  ·rw [Array.getElem?_setIfInBounds_ne (by omega)]
   by_cases a:o+1<=k/\k < o+1+vs.length
   ·rw [YQm a,YQm (by simp only [YTm]; omega),show k - o=(k - (o+1))+1 by omega]; rfl
   ·rw [YPm a,YPm (by simp only [YTm]; omega)]
theorem Ybk (w:World) (b o:Nat) (v:Value):Keep w [b] (w.setCell ⟨b,o,none⟩ v):=
 ⟨rfl,rfl,rfl,by simp [World.setCell],fun k _ hk=> RowKit.Below.heap_setCell _ _ _ _ (by simpa using hk)⟩
theorem YU2 (b:Nat):∀ (vs:List Value) (o:Nat) (w:World),Keep w [b] (w.setCells b o vs)
 | [],_,w=> Keep.refl w _
 | v::vs,o,w=> Keep.trans (Ybk w b o v) (YU2 b vs (o+1) _) (fun _ h=> .inl h)
theorem Yw3 (w:World) (X:List Nat):Keep w X w.drew:=⟨rfl,rfl,rfl,Nat.le_refl _,fun _ _ _=> rfl⟩
theorem Yv3 (w:World) (o:Obj) (X:List Nat):Keep w X (w.alloc o):=⟨rfl,rfl,rfl,by simp,fun k hk _=> RowKit.Below.heap_alloc _ _ _ hk⟩
theorem Y15 {w w':World} {X Y:List Nat} (h:Keep w X w') (hX:∀ b∈X,b∈Y\/w.heap.size<=b):Keep w Y w':=
 ⟨h.os,h.tape,h.output,h.size,fun b hb hn=> h.block b hb fun hx=> (hX b hx).elim hn (fun h=> by omega)⟩
theorem Yi6 {w:World} {fz:Nat->Prop} {k:IntKind}:∀ {xs:List Int} {cs:List Value} {X:List Nat},RepL (Rep w fz (.int k)) xs cs X->cs=xs.map (Value.int k)/\X=[]
 | [],_,_,h=> h
 | x::xs,_,_,⟨c1,c2,X1,X2,e1,e2,⟨h1,h2⟩,h3⟩=> by
  obtain ⟨rfl,rfl⟩:=Yi6 h3
  subst h1 h2 e1 e2
  exact ⟨rfl,rfl⟩
theorem Y18 {w:World} {fz:Nat->Prop} {k:IntKind}:∀ (xs:List Int),RepL (Rep w fz (.int k)) xs (xs.map (Value.int k)) []
 | []=> ⟨rfl,rfl⟩
 | x::xs=> ⟨[_],_,[],[],rfl,rfl,⟨rfl,rfl⟩,Y18 xs⟩
theorem Yn5 (c:Array Value) (off n j:Nat):(Ye c off n)[j]? =if j < n then c[off+j]? else none:=by
 unfold Ye
 rw [List.getElem?_take,List.getElem?_drop,Array.getElem?_toList]
theorem Yw9 {c:Array Value} {off n:Nat} {vs:List Value} (h:Ye c off n=vs):∀ (j:Nat) v,vs[j]? =some v->c[off+j]? =some v:=by
 intro j v hv
 rw [<-h,Yn5] at hv
 split at hv
 ·exact hv
 ·cases hv
theorem YP3 {c:Array Value} {off n:Nat} {vs:List Value} (hn:vs.length=n) (h:∀ j,j < n->c[off+j]? =vs[j]?):Ye c off n=vs:=by
 apply List.ext_getElem?
 intro j
 rw [Yn5]
 split
 ·exact h j (by assumption)
 ·rw [List.getElem?_eq_none (by omega)]
theorem Ym3 {w:World} {b o:Nat} {c:Array Value} {el:TypeId} {fr:Nat×Nat} (h:w.heap[b]? =some (.cells c el fr)):w.cell? ⟨b,o,none⟩=c[o]? :=by simp [World.cell?,h]
theorem YJ8 (l:List Int):∀ v∈l.map (Value.int .i32),v.oneCell'=true:=by
 intro v hv
 obtain ⟨x,_,rfl⟩:=List.mem_map.1 hv
 rfl
theorem Yh6 (l:List Int) (n:Nat) (r:Int):(l.take n++[r]++l.drop n).map (Value.int .i32)=(l.map (Value.int .i32)).take n++[Value.int .i32 r]++(l.map (Value.int .i32)).drop n:=by
 simp [List.map_take,List.map_drop]
theorem Yu8 (cs:List Value) (n:Nat) (v:Value) (hn:n<=cs.length) (j:Nat):(cs.take n++[v]++cs.drop n)[j]? =if j < n then cs[j]? else if j=n then some v else cs[j - 1]? :=by
 have hl:(cs.take n).length=n:=by rw [Y4n]; omega
 by_cases a:j < n
 ·rw [YQm a,YVm,List.getElem?_append_left (by omega),List.getElem?_take_of_lt a]
 ·rw [YPm a]
  by_cases b:j=n
  ·rw [YQm b,List.getElem?_append_left (by rw [YUm,hl]; simp; omega),List.getElem?_append_right (by omega),hl,b,Nat.sub_self]; rfl
  ·rw [YPm b,List.getElem?_append_right (by rw [YUm,hl]; simp; omega),YUm,hl,List.getElem?_drop]
   congr 1
   simp; omega
theorem YQ3 (k:Nat):(Builtin.zeroCells (Value.int .i32 0).cells k).size=k:=by simp [Builtin.zeroCells,Value.cells]
theorem Yc5 {w:World} {fz:Nat->Prop} {b off cap:Nat} {c:Array Value} {el:TypeId} {fr:Nat×Nat} {ys:List Int} (hb:w.heap[b]? =some (.cells c el fr)) (hlc:ys.length<=cap) (hsz:off+cap<=c.size) (hF:FrT (.int .i32) fr c.size)
  (hw:Ye c off ys.length=ys.map (Value.int .i32)):Rep w fz (.sl true (.int .i32)) ys [.slice (some ⟨b,off,none⟩) ys.length cap] [b]:=by
 refine .inr (.inl ⟨b,off,cap,c,el,fr,[],rfl,hb,hlc,by show off+cap*1<=_; omega,?_,hF,rfl⟩)
 show RepL _ ys (Ye c off (ys.length*1)) []
 rw [Nat.mul_one,hw]
 exact Y18 ys
theorem YY4 {w w':World} {fz:Nat->Prop} {X:List Nat} {b:Nat} {l:List Int} {n:Nat} {r:Int} {v:Value} {e:Ending} (hk:Keep w X w') (hz:∀ b,fz b->b < w.heap.size) (he:e=.returned v) (hr:Rep w' fz (.sl true (.int .i32)) (l.take n++[r]++l.drop n) [v] [b])
  (hb:b < w'.heap.size) (hnf:¬fz b) (hbx:b∈X\/w.heap.size<=b):
  Keep w X w'/\∃ fz',FzOk w X fz fz' w'/\∃ rs X',e=.returned (retV rs)/\RepOuts w' fz' [.sl true (.int .i32)] [] (l.take n++[r]++l.drop n) rs [] X'/\X'.Nodup/\∀ b∈X',b < w'.heap.size/\¬fz' b/\(b∈X\/w.heap.size<=b):=
 ⟨hk,fz,YG1 hz hk.size,[v],[b],he,⟨rfl,_,rfl,hr⟩,by simp,fun k hk=> by rw [Yjn] at hk; subst hk; exact ⟨hb,hnf,hbx⟩⟩
theorem Y8m (x:List Int×(Int×List Int)) (y:List Int) (h:YE3 x=some y):Yg2 E ⟨[.sl true (.int .i32),.int .i64,.sl true (.int .i32)],[.sl true (.int .i32)],none⟩ 277 x y:=by
 obtain ⟨l,i,v⟩:=x
 unfold YE3 at h
 dsimp only at h
 cases hd:decide (0<=i)&&(decide (i<=l.length)&&(decide (v.length=1)&&decide (l.length<=4294967296))) with
 | false=> rw [hd] at h; cases h
 | true=>
 rw [hd,YMm] at h
 obtain rfl:=Option.some.inj h
 simp only [YRm,Y3n] at hd
 obtain ⟨h0,h1,h2,h3⟩:=hd
 obtain ⟨n,rfl⟩:=Int.eq_ofNat_of_zero_le h0
 obtain ⟨r,rfl⟩:=List.length_eq_one_iff.1 h2
 have h1:n<=l.length:=by omega
 rw [YSm]
 rintro w fz vs X ⟨cs,us,X1,X2,rfl,rfl,hl,cs2,us2,X3,X4,rfl,rfl,⟨rfl,rfl⟩,cs3,rfl,hv⟩ hnd hX hz _
 have hmx:(140737488355328:Nat)<=maxLen:=by decide
 rcases hv with ⟨_,hv,_⟩ | ⟨vb,voff,vcap,vc,vel,vfr,X',rfl,hvb,hvlc,hvsz,hvr,hvF,rfl⟩ | ⟨hv,_⟩
 ·cases hv
 rotate_left
 ·cases hv
 obtain ⟨hvw,rfl⟩:=Yi6 hvr
 have hvsz:voff+vcap<=vc.size:=by have:voff+vcap*1<=vc.size:=hvsz; omega
 have hvlc:1<=vcap:=hvlc
 have hvs:∀ (j:Nat) u,([Value.int .i32 r]:List Value)[j]? =some u->w.cell? ⟨vb,voff+j,none⟩=some u:=fun j u hj=> by rw [Ym3 hvb]; exact Yw9 hvw j u hj
 have h1v:∀ u∈([Value.int .i32 r]:List Value),u.oneCell'=true:=YJ8 [r]
 have hcl:(l.map (Value.int .i32)).length=l.length:=List.length_map _
 have hcap (w:World) (c:Nat):grownCap w (l.length+1) c 21<=9223372036854775807:=grownCap_le_maxLen w _ _ _ (by omega)
 rcases hl with ⟨rfl,hl0,rfl⟩ | ⟨b,off,cap,c,el,fr,X',rfl,hb,hlc,hsz,hr,hF,rfl⟩ | ⟨hl,_⟩
 rotate_right
 ·cases hl
 ·-- nil
  obtain rfl:l=[]:=hl0
  obtain rfl:n=0:=by simpa using h1
  refine (RuneIns.end_grow none 0 0 vb voff 1 vcap [] [Value.int .i32 r] w (by omega) (by omega) (by omega) (by omega) rfl rfl (fun _=> rfl) (fun a ha=> by cases ha) hvs h1v).mono ?_
  rintro e w' ⟨rfl,rfl⟩
  have hg:=grownCap_ge w (0+1) 0 21
  have hk:Keep w ([]++([]++[vb])) (w.drew.alloc (.cells (([]++[Value.int .i32 r]:List Value).toArray++Builtin.zeroCells (Value.int .i32 0).cells (grownCap w (0+1) 0 21 - (0+1))) 21)):=Keep.trans (Yw3 w _) (Yv3 _ _ _) (fun _ h=> .inl h)
  refine YY4 (l:=[]) (n:=0) (b:=w.heap.size) hk hz rfl (Yc5 (ys:=[r]) (fr:=(0,0)) (el:=21) (c:=([]++[Value.int .i32 r]:List Value).toArray++Builtin.zeroCells (Value.int .i32 0).cells (grownCap w (0+1) 0 21 - (0+1))) ?_ ?_ ?_ ?_ ?_) ?_ (fun hf=> by have:=hz _ hf; omega) (.inr (Nat.le_refl _))
  ·show (w.heap.push _)[w.heap.size]? =_
   simp
  ·exact hg
  ·rw [Array.size_append,YQ3]; simp; omega
  ·refine YA2 _ _ fun _=> ?_
   rw [Array.size_append,YQ3]
   have:grownCap w (0+1) 0 21<=9223372036854775807:=hcap w 0
   show 1+(grownCap w (0+1) 0 21 - (0+1))<=_
   omega
  ·refine YP3 rfl fun j hj=> ?_
   have:j=0:=by simpa using hj
   subst this
   rw [Nat.zero_add,Array.getElem?_append_left (by simp)]; rfl
  ·show w.heap.size < (w.heap.push _).size
   simp
 ·-- a block
  obtain ⟨hlw0,rfl⟩:=Yi6 hr
  have hsz:off+cap<=c.size:=by have:off+cap*1<=c.size:=hsz; omega
  have hlw:Ye c off l.length=l.map (Value.int .i32):=by
   have:Ye c off (l.length*1)=l.map (Value.int .i32):=hlw0
   rwa [Nat.mul_one] at this
  have hcs:∀ (j:Nat) u,(l.map (Value.int .i32))[j]? =some u->w.cell? ⟨b,off+j,none⟩=some u:=fun j u hj=> by rw [Ym3 hb]; exact Yw9 hlw j u hj
  have hlt:b < w.heap.size:=(Array.getElem?_eq_some_iff.1 hb).1
  have hne:vb≠b:=by
   rintro rfl
   simp at hnd
  have hbX:b∈([b]++([]++[vb]):List Nat):=by simp
  have hbf:=(hX b hbX).2
  have hyl:(l.take n++[r]++l.drop n).length=l.length+1:=by simp; omega
  by_cases room:l.length+1<=cap
  ·by_cases hin:n < l.length
   ·refine (RuneIns.shift b off l.length cap n vb voff 1 vcap (l.map (Value.int .i32)) [Value.int .i32 r] w hin (by omega) room (by have:=hF.2.2 rfl; omega) hne hcl rfl hcs
     (fun j hj=> by rw [Ym3 hb,Array.getElem?_eq_getElem (by omega)]; rfl) (fun j hj=> YT4 hb hF.1 (by omega)) hvs (YJ8 l) h1v vel el vc.size c.size (by simp [World.shape?,hvb]) (by simp [World.shape?,hb]) (by omega) (YT4 hvb hvF.1 (by omega))
     (by
      have:=hvF.2.1 (by intro e; cases e)
      simp only [World.frozen?,hvb,Bool.and_eq_false_imp,Y3n,decide_eq_false_iff_not]
      intro a1 a2; exact this ⟨a1,a2⟩)).mono ?_
    rintro e w' ⟨rfl,rfl⟩
    obtain ⟨c1,g1,g2,g3⟩:=YQ2 b ((l.map (Value.int .i32)).drop n) (off+(n+1)) w.drew c el fr hb
    obtain ⟨c2,k1,k2,k3⟩:=YQ2 b [Value.int .i32 r] (off+n) _ c1 el fr g1
    have hk:Keep w ([b]++([]++[vb])) ((w.drew.setCells b (off+(n+1)) ((l.map (Value.int .i32)).drop n)).setCells b (off+n) [Value.int .i32 r]):=
     Keep.trans (Yw3 w _) (Keep.trans (Y15 (YU2 b _ _ _) (fun k hk=> .inl (by rw [Yjn] at hk; subst hk; exact hbX))) (Y15 (YU2 b _ _ _) (fun k hk=> .inl (by rw [Yjn] at hk; subst hk; exact hbX))) (fun _ h=> .inl h)) (fun _ h=> .inl h)
    refine YY4 (b:=b) hk hz (v:=.slice (some ⟨b,off,none⟩) (l.length+1) cap) rfl ?_ (Nat.lt_of_lt_of_le hlt hk.size) hbf (.inl hbX)
    have hfin:=Yc5 (w:=(w.drew.setCells b (off+(n+1)) ((l.map (Value.int .i32)).drop n)).setCells b (off+n) [Value.int .i32 r]) (fz:=fz) (b:=b) (off:=off) (cap:=cap) (c:=c2) (el:=el) (fr:=fr) (ys:=l.take n++[r]++l.drop n) k1 (by omega) (by omega) (by rw [k2,g2]; exact hF) ?_
    ·rw [hyl] at hfin; exact hfin
    ·refine YP3 (by simp) fun j hj=> ?_
     rw [hyl] at hj
     rw [k3 _ (by omega),g3 _ (by omega),Yh6,Yu8 _ _ _ (by omega)]
     have hdl:((l.map (Value.int .i32)).drop n).length=l.length - n:=by simp
     by_cases a:j < n
     ·rw [YPm (by simp; omega),YPm (by omega),YQm a]
      have:=Yn5 c off l.length j
      rw [YQm (by omega),hlw] at this
      exact this.symm
     ·rw [YPm a]
      by_cases b':j=n
      ·subst b'
       rw [YQm (by simp),YQm rfl,Nat.sub_self]; rfl
      ·rw [YPm (by simp; omega),YQm (by rw [hdl]; omega),YPm b',List.getElem?_drop]
       congr 1; omega
   ·obtain rfl:n=l.length:=by omega
    refine (RuneIns.end_room b off l.length cap vb voff 1 vcap [Value.int .i32 r] w (by omega) room (by have:=hF.2.2 rfl; omega) rfl
     (fun j hj=> by rw [Ym3 hb,Array.getElem?_eq_getElem (by omega)]; rfl) (fun j hj=> YT4 hb hF.1 (by omega)) hvs h1v).mono ?_
    rintro e w' ⟨rfl,rfl⟩
    obtain ⟨c2,k1,k2,k3⟩:=YQ2 b [Value.int .i32 r] (off+l.length) w c el fr hb
    have hk:Keep w ([b]++([]++[vb])) (w.setCells b (off+l.length) [Value.int .i32 r]):=
     Y15 (YU2 b _ _ _) (fun k hk=> .inl (by rw [Yjn] at hk; subst hk; exact hbX))
    refine YY4 (b:=b) hk hz (v:=.slice (some ⟨b,off,none⟩) (l.length+1) cap) rfl ?_ (Nat.lt_of_lt_of_le hlt hk.size) hbf (.inl hbX)
    have hfin:=Yc5 (w:=w.setCells b (off+l.length) [Value.int .i32 r]) (fz:=fz) (b:=b) (off:=off) (cap:=cap) (c:=c2) (el:=el) (fr:=fr) (ys:=l.take l.length++[r]++l.drop l.length) k1 (by omega) (by omega) (by rw [k2]; exact hF) ?_
    ·rw [hyl] at hfin; exact hfin
    ·refine YP3 (by simp) fun j hj=> ?_
     rw [hyl] at hj
     rw [k3 _ (by omega),Yh6,Yu8 _ _ _ (by omega)]
     by_cases a:j < l.length
     ·rw [YPm (by simp; omega),YQm a]
      have:=Yn5 c off l.length j
      rw [YQm (by omega),hlw] at this
      exact this.symm
     ·obtain rfl:j=l.length:=by omega
      rw [YQm (by simp),YPm (by omega),YQm rfl,Nat.sub_self]; rfl
  ·by_cases hin:n < l.length
   ·refine (RuneIns.grow b off l.length cap n vb voff 1 vcap (l.map (Value.int .i32)) [Value.int .i32 r] w hin (by omega) hlc (by omega) (by omega) hcl rfl hcs hvs (YJ8 l) h1v).mono ?_
    rintro e w' ⟨rfl,rfl⟩
    have hg:=grownCap_ge w (l.length+1) cap 21
    have hgc:=hcap w cap
    have hzs:=fun k=> YQ3 k
    generalize grownCap w (l.length+1) cap 21=G at hg hgc ⊢
    have hRs:(((l.map (Value.int .i32)).take n).toArray++Builtin.zeroCells (Value.int .i32 0).cells (l.length+1 - n)++Builtin.zeroCells (Value.int .i32 0).cells (G - (l.length+1))).size=G:=by
     rw [Array.size_append,Array.size_append,YQ3,YQ3]; simp; omega
    have hRg:∀ j,j < n->(((l.map (Value.int .i32)).take n).toArray++Builtin.zeroCells (Value.int .i32 0).cells (l.length+1 - n)++Builtin.zeroCells (Value.int .i32 0).cells (G - (l.length+1)))[j]? =(l.map (Value.int .i32))[j]? :=by
     intro j hj
     rw [Array.getElem?_append_left (by rw [Array.size_append,YQ3]; simp; omega),Array.getElem?_append_left (by simp; omega),List.getElem?_toArray,List.getElem?_take_of_lt hj]
    generalize ((l.map (Value.int .i32)).take n).toArray++Builtin.zeroCells (Value.int .i32 0).cells (l.length+1 - n)++Builtin.zeroCells (Value.int .i32 0).cells (G - (l.length+1))=R at hRs hRg ⊢
    have hN:(w.alloc (.cells R 21)).drew.heap[w.heap.size]? =some (.cells R 21 (0,0)):=by
     show (w.heap.push _)[w.heap.size]? =_
     simp
    obtain ⟨c1,g1,g2,g3⟩:=YQ2 w.heap.size [Value.int .i32 r] n (w.alloc (.cells R 21)).drew R 21 (0,0) hN
    obtain ⟨c2,k1,k2,k3⟩:=YQ2 w.heap.size ((l.map (Value.int .i32)).drop n) (n+1) ((w.alloc (.cells R 21)).drew.setCells w.heap.size n [Value.int .i32 r]).drew c1 21 (0,0) g1
    have hk:Keep w ([b]++([]++[vb])) ((((w.alloc (.cells R 21)).drew.setCells w.heap.size n [Value.int .i32 r]).drew).setCells w.heap.size (n+1) ((l.map (Value.int .i32)).drop n)):=by
     refine Y15 (X:=[w.heap.size]) ?_ (fun k hk=> .inr (by rw [Yjn] at hk; omega))
     exact Keep.trans (Keep.trans (Keep.trans (Yv3 w _ _) (Yw3 _ _) (fun _ h=> .inl h)) (Keep.trans (YU2 _ _ _ _) (Yw3 _ _) (fun _ h=> .inl h)) (fun _ h=> .inl h)) (YU2 _ _ _ _) (fun _ h=> .inl h)
    refine YY4 (b:=w.heap.size) hk hz (v:=.slice (some ⟨w.heap.size,0,none⟩) (l.length+1) G) rfl ?_ ((Array.getElem?_eq_some_iff.1 k1).1) (fun hf=> by have:=hz _ hf; omega) (.inr (Nat.le_refl _))
    have hfin:=Yc5 (fz:=fz) (b:=w.heap.size) (off:=0) (cap:=G) (c:=c2) (el:=21) (fr:=(0,0)) (ys:=l.take n++[r]++l.drop n) k1 (by omega) (by omega) (YA2 _ _ fun _=> by rw [k2,g2,hRs]; exact hgc) ?_
    ·rw [hyl] at hfin; exact hfin
    ·refine YP3 (by simp) fun j hj=> ?_
     rw [hyl] at hj
     have hdl:((l.map (Value.int .i32)).drop n).length=l.length - n:=by simp
     rw [Nat.zero_add,k3 _ (by omega),g3 _ (by omega),Yh6,Yu8 _ _ _ (by omega)]
     by_cases a:j < n
     ·rw [YPm (by rw [hdl]; omega),YPm (by simp; omega),YQm a,hRg j a]
     ·rw [YPm a]
      by_cases b':j=n
      ·subst b'
       rw [YPm (by omega),YQm (by simp),YQm rfl,Nat.sub_self]; rfl
      ·rw [YQm (by rw [hdl]; omega),YPm b',List.getElem?_drop]
       congr 1; omega
   ·obtain rfl:n=l.length:=by omega
    refine (RuneIns.end_grow (some ⟨b,off,none⟩) l.length cap vb voff 1 vcap (l.map (Value.int .i32)) [Value.int .i32 r] w (by omega) hlc (by omega) (by omega) hcl rfl (fun h=> by cases h)
     (fun a ha j u hj=> by cases ha; rw [Addr.add_lit]; exact hcs j u hj) hvs h1v).mono ?_
    rintro e w' ⟨rfl,rfl⟩
    have hg:=grownCap_ge w (l.length+1) cap 21
    have hgc:=hcap w cap
    generalize grownCap w (l.length+1) cap 21=G at hg hgc ⊢
    have hRs:((l.map (Value.int .i32)++[Value.int .i32 r]).toArray++Builtin.zeroCells (Value.int .i32 0).cells (G - (l.length+1))).size=G:=by
     rw [Array.size_append,YQ3]; simp; omega
    have hk:Keep w ([b]++([]++[vb])) (w.drew.alloc (.cells ((l.map (Value.int .i32)++[Value.int .i32 r]).toArray++Builtin.zeroCells (Value.int .i32 0).cells (G - (l.length+1))) 21)):=Keep.trans (Yw3 w _) (Yv3 _ _ _) (fun _ h=> .inl h)
    refine YY4 (b:=w.heap.size) hk hz (v:=.slice (some ⟨w.heap.size,0,none⟩) (l.length+1) G) rfl ?_ (by show w.heap.size < (w.heap.push _).size; simp) (fun hf=> by have:=hz _ hf; omega) (.inr (Nat.le_refl _))
    have hfin:=Yc5 (w:=w.drew.alloc (.cells ((l.map (Value.int .i32)++[Value.int .i32 r]).toArray++Builtin.zeroCells (Value.int .i32 0).cells (G - (l.length+1))) 21)) (fz:=fz) (b:=w.heap.size) (off:=0) (cap:=G) (el:=21) (fr:=(0,0)) (ys:=l.take l.length++[r]++l.drop l.length)
     (by show (w.heap.push _)[w.heap.size]? =_; simp; rfl) (by omega) (by rw [hRs]; omega) (YA2 _ _ fun _=> by rw [hRs]; exact hgc) ?_
    ·rw [hyl] at hfin; exact hfin
    ·refine YP3 (by simp) fun j hj=> ?_
     rw [hyl] at hj
     rw [Nat.zero_add,Array.getElem?_append_left (by simp; omega),List.getElem?_toArray,Yh6,List.take_of_length_le (by omega),List.drop_eq_nil_of_le (by omega),Ydn]
theorem p277 (x:List Int×(Int×List Int)) (y:List Int) (h:YE3 x=some y):YA E 277 x y:=Y8m x y h
end Go.Abs
namespace Go.Abs
open Go.Proofs
theorem Ykl:ShD.ports=.map [(.string [102,116,112],.lit (.int .i64 21)),(.string [104,116,116,112],.lit (.int .i64 80)),(.string [104,116,116,112,115],.lit (.int .i64 443)),(.string [119,115],.lit (.int .i64 80)),(.string [119,115,115],.lit (.int .i64 443))]:=by kernel_rfl
theorem Yjl (s:List UInt8) (c:Int) (h:ShD.ports.atKey (.string s) (.lit (.int .i64 0))=.lit (.int .i64 c)):
  (c,Maps.has ShD.ports (.string s))=(bif s==[104,116,116,112] then (80,true) else bif s==[104,116,116,112,115] then (443,true) else bif s==[119,115] then (80,true) else bif s==[119,115,115] then (443,true) else bif s==[102,116,112] then (21,true) else (0,false)):=by
 rw [Ykl] at h ⊢
 simp only [DataW.atKey,List.find?_cons,List.find?_nil,Lit.sameKey] at h
 simp only [Maps.has_eq,List.any_cons,List.any_nil,Lit.sameKey]
 have key:∀ {t:List UInt8} {n:Int},s=t->(DataW.lit (.int .i64 n):DataW Unit)=.lit (.int .i64 c)->c=n:=fun _ h=> by injection h with h; injection h with _ h; exact h.symm
 by_cases e1:s=[104,116,116,112]
 ·subst e1; exact Prod.ext (key rfl h) rfl
 by_cases e2:s=[104,116,116,112,115]
 ·subst e2; exact Prod.ext (key rfl h) rfl
 by_cases e3:s=[119,115]
 ·subst e3; exact Prod.ext (key rfl h) rfl
 by_cases e4:s=[119,115,115]
 ·subst e4; exact Prod.ext (key rfl h) rfl
 by_cases e5:s=[102,116,112]
 ·subst e5; exact Prod.ext (key rfl h) rfl
 have f:∀ {t:List UInt8},s≠t->(t==s)=false:=fun h=> YWm.2 (fun e=> h e.symm)
 have g:∀ {t:List UInt8},s≠t->(s==t)=false:=fun h=> YWm.2 h
 rw [f e1,f e2,f e3,f e4,f e5] at h ⊢
 rw [g e1,g e2,g e3,g e4,g e5]
 exact Prod.ext (key rfl h) rfl
theorem Yam (x:List UInt8) (y:Int×Bool) (h:YG3 x=some y):Yg2 E ⟨[.str],[.int .i64,.bool],none⟩ 211 x y:=by
 unfold YG3 at h
 cases hd:decide (x.length<=140737488355328) with
 | false=> rw [hd] at h; cases h
 | true=>
 rw [hd,YMm] at h
 have hx:=of_decide_eq_true hd
 rintro w fz vs X ⟨cs,rfl,rfl,rfl⟩ _ _ hz _
 have hmx:(140737488355328:Nat)<=maxLen:=by decide
 refine (ShD.port_walk ⟨x.toArray⟩ (by simp [ByteArray.size]; omega) w).mono ?_
 rintro e w' ⟨c,rfl,hc,es,c',rfl⟩
 have hy:(c,Maps.has ShD.ports (.string x))=y:=(Yjl x c hc).trans (Option.some.inj h)
 subst hy
 have hk:Keep w [] (w.alloc (.map es c')):=Yv3 _ _ _
 exact ⟨hk,fz,YG1 hz hk.size,[.int .i64 c,.bool _],[],rfl,⟨[.int .i64 c],_,[],[],rfl,rfl,⟨rfl,rfl⟩,rfl,_,rfl,rfl,rfl⟩,List.nodup_nil,by simp⟩
theorem YLi {v:Value} (h:YJ v):v.oneCell'=true:=by cases v <;> first | rfl | cases h
theorem Yjj {w:World} {fz:Nat->Prop} {cs:List Value} {l:List D87} {X:List Nat} (h:RepL (Rep w fz T87) l cs X):cs.length=l.length*15/\(∀ v∈cs,v.oneCell'=true)/\X=[]:=
 ⟨RepL.length (fun x cs X h=> Rep.length T87 h) h,fun v hv=> YLi (RepL.cells (fun x cs X h=> Rep.cells T87 h) h v hv),RepL.pure (fun x cs X h=> Rep.pure T87 (by rfl) h) h⟩
theorem Y6m (x:List D87×(Int×Int)) (y:List D87) (h:Y03 x=some y):Yg2 E ⟨[.sl true T87,.int .i64,.int .i64],[.sl true T87],none⟩ 69 x y:=by
 obtain ⟨l,i,j⟩:=x
 unfold Y03 at h
 dsimp only at h
 cases hd:decide (0<=i)&&(decide (i<=j)&&(decide (j<=(l.length:Int))&&decide (l.length<=4294967296))) with
 | false=> rw [hd] at h; cases h
 | true=>
 rw [hd,YMm] at h
 obtain rfl:=Option.some.inj h
 simp only [YRm,Y3n] at hd
 obtain ⟨h0,h1,h2,h3⟩:=hd
 obtain ⟨i,rfl⟩:=Int.eq_ofNat_of_zero_le h0
 obtain ⟨j,rfl⟩:=Int.eq_ofNat_of_zero_le (show 0<=j by omega)
 have h1:i<=j:=by omega
 have h2:j<=l.length:=by omega
 rw [YSm,YSm]
 rintro w fz vs X ⟨cs,us,X1,X2,rfl,rfl,hl,cs2,us2,X3,X4,rfl,rfl,⟨rfl,rfl⟩,cs3,rfl,⟨rfl,rfl⟩⟩ hnd hX hz _
 have hself:i=j->l.take i++l.drop j=l:=fun e=> by subst e; exact List.take_append_drop i l
 by_cases hij:i=j
 ·subst hij
  rw [hself rfl]
  have fin:∀ (a:Option Addr) (cap:Nat),cs=[.slice a l.length cap]->l.length<=cap->Calls E.P 69 [mkV (Ty.sl true T87).isAgg cs,mkV (Ty.int .i64).isAgg [.int .i64 i],mkV (Ty.int .i64).isAgg [.int .i64 i]].toArray w fun e w'=> Keep w (X1++([]++[])) w'/\∃ fz',FzOk w (X1++([]++[])) fz fz' w'/\∃ rs X',e=.returned (retV rs)/\RepOuts w' fz' [.sl true T87] [] l rs [] X'/\X'.Nodup/\∀ b∈X',b < w'.heap.size/\¬fz' b/\(b∈(X1++([]++[]))\/w.heap.size<=b):=by
   rintro a cap rfl hlc
   refine (ShD.delete_none a l.length cap i w h2 hlc h3).mono ?_
   rintro e w' ⟨rfl,rfl⟩
   rw [Ydn,Ydn] at hnd hX ⊢
   exact ⟨Keep.refl _ _,fz,YG1 hz (Nat.le_refl _),[.slice a l.length cap],X1,rfl,⟨rfl,_,rfl,hl⟩,hnd,fun b hb=> ⟨(hX b hb).1,(hX b hb).2,.inl hb⟩⟩
  rcases hl with ⟨rfl,hl0,rfl⟩ | ⟨b,off,cap,c,el,fr,X',rfl,hb,hlc,hsz,hr,hF,rfl⟩ | ⟨hl,_⟩
  ·exact fin none 0 (by rw [show l=[] from hl0]; rfl) (by rw [show l=[] from hl0]; exact Nat.le_refl _)
  ·exact fin _ _ rfl hlc
  ·cases hl
 ·have hlt:i < j:=by omega
  rcases hl with ⟨rfl,hl0,rfl⟩ | ⟨b,off,cap,c,el,fr,X',rfl,hb,hlc,hsz,hr,hF,rfl⟩ | ⟨hl,_⟩
  ·have:l=[]:=hl0
   subst this
   simp at h2; omega
  rotate_left
  ·cases hl
  obtain ⟨hcl,hc1,rfl⟩:=Yjj hr
  have hsz:off+cap*15<=c.size:=hsz
  have hr:RepL (Rep w fz T87) l (Ye c off (l.length*15)) []:=hr
  have hcl:(Ye c off (l.length*15)).length=l.length*15:=hcl
  have hc1:∀ v∈Ye c off (l.length*15),v.oneCell'=true:=hc1
  have hlc:l.length<=cap:=hlc
  generalize hcs:Ye c off (l.length*15)=cs0 at hr hcl hc1
  have hcap:l.length*15<=cap*15:=Nat.mul_le_mul_right _ hlc
  have hlt0:b < w.heap.size:=Yo2 hb
  have hbX:b∈([b]++([]++[]):List Nat):=by simp
  have hbf:=(hX b hbX).2
  obtain ⟨z0,hz0,hz0s,hz0c⟩:∃ z0,(∀ w,(zeroValue 88).run Tryz.prog w=.ok z0 w)/\z0.cells.size=15/\z0.cells.toList.all (fun v=> v.oneCell')=true:=⟨_,Tryz.zeroValue88,by kernel_rfl,by kernel_rfl⟩
  have zl:∀ k,(Builtin.zeroCells z0.cells k).toList.length=k*15:=fun k=> by simp [Builtin.zeroCells,hz0s]
  have z1:∀ k,∀ v∈(Builtin.zeroCells z0.cells k).toList,v.oneCell'=true:=fun k v hv=> by
   simp only [Builtin.zeroCells,Array.toList_map,List.mem_map,Array.mem_toList_iff,Array.mem_range] at hv
   obtain ⟨q,hq,rfl⟩:=hv
   rw [hz0s] at hq ⊢
   have hm:q % 15 < z0.cells.size:=by rw [hz0s]; omega
   rw [getElem!_pos z0.cells _ hm]
   exact List.all_eq_true.1 hz0c _ (Array.getElem_mem_toList hm)
  have hwin:∀ t,t < l.length*15->c[off+t]? =cs0[t]? :=fun t ht=> by
   have:=Yn5 c off (l.length*15) t
   rw [YQm ht,hcs] at this
   exact this.symm
  have hin:∀ t,t < l.length*15->off+t < c.size:=fun t ht=> by omega
  refine (ShD.delete_some b off l.length cap i j (cs0.drop (j*15)) (Builtin.zeroCells z0.cells (l.length - (i+(l.length - j)))).toList w hlt h2 hlc h3 ?_ ?_ ?_ ?_ ?_ ?_ ?_ ?_).mono ?_
  ·rw [Y5n,hcl]; omega
  ·intro t u hu
   rw [List.getElem?_drop] at hu
   have ht:j*15+t < l.length*15:=by rw [<-hcl]; exact (List.getElem?_eq_some_iff.1 hu).1
   rw [Ym3 hb,Nat.add_assoc,hwin _ ht]; exact hu
  ·intro u hu; exact hc1 u (List.mem_of_mem_drop hu)
  ·intro t ht
   rw [Ym3 hb,Array.getElem?_eq_getElem (hin t ht)]; rfl
  ·intro t ht; exact YT4 hb hF.1 (hin t ht)
  ·intro z hz
   have:=(hz w).symm.trans (hz0 w)
   injection this with e
   rw [e]
  ·exact z1 _
  ·rw [zl]; omega
  rintro e w' ⟨rfl,rfl⟩
  generalize hzz:(Builtin.zeroCells z0.cells (l.length - (i+(l.length - j)))).toList=zs
  have hzl:zs.length=(l.length - (i+(l.length - j)))*15:=by rw [<-hzz]; exact zl _
  obtain ⟨c1,g1,g2,g3⟩:=YQ2 b (cs0.drop (j*15)) (off+i*15) w.drew c el fr hb
  obtain ⟨c2,k1,k2,k3⟩:=YQ2 b zs (off+(i+(l.length - j))*15) _ c1 el fr g1
  generalize hw':(w.drew.setCells b (off+i*15) (cs0.drop (j*15))).setCells b (off+(i+(l.length - j))*15) zs=w' at k1
  have hkb:Keep w [b] w':=by
   rw [<-hw']
   exact Keep.trans (Yw3 w _) (Keep.trans (YU2 b _ _ _) (YU2 b _ _ _) (fun _ h=> .inl h)) (fun _ h=> .inl h)
  have hk:Keep w ([b]++([]++[])) w':=Y15 hkb (fun k hk=> .inl (by rw [Yjn] at hk; subst hk; exact hbX))
  have hother:∀ k,k < w.heap.size->k≠b->w'.heap[k]? =w.heap[k]? :=fun k hk' hne=> hkb.block k hk' (by simpa using hne)
  have hdl:(cs0.drop (j*15)).length=(l.length - j)*15:=by rw [Y5n,hcl]; omega
  have hyl:(l.take i++l.drop j).length=i+(l.length - j):=by rw [YUm,Y4n,Y5n]; omega
  refine ⟨hk,fz,YG1 hz hk.size,[.slice (some ⟨b,off,none⟩) (i+(l.length - j)) cap],[b],rfl,⟨rfl,[.slice (some ⟨b,off,none⟩) (i+(l.length - j)) cap],rfl,?_⟩,by simp,fun k hkk=> by rw [Yjn] at hkk; subst hkk; exact ⟨Nat.lt_of_lt_of_le hlt0 hk.size,hbf,.inl hbX⟩⟩
  refine .inr (.inl ⟨b,off,cap,c2,el,fr,[],by rw [hyl],k1,by rw [hyl]; omega,by show off+cap*15<=_; omega,?_,by rw [k2,g2]; exact hF,rfl⟩)
  rw [hyl]
  show RepL _ _ (Ye c2 off ((i+(l.length - j))*15)) []
  have hpure:∀ (x:D87) cs X,Rep w fz T87 x cs X->cs.length=15/\X=[]:=fun x cs X h=> ⟨Rep.length T87 h,Rep.pure T87 (by rfl) h⟩
  have hrr:RepL (Rep w fz T87) (l.take i++l.drop j) (cs0.take (i*15)++cs0.drop (j*15)) []:=by
   have:=RepL.append (RepL.take hpure i hr) (RepL.drop hpure j hr)
   exact this
  have hww:Ye c2 off ((i+(l.length - j))*15)=cs0.take (i*15)++cs0.drop (j*15):=by
   have htl:(cs0.take (i*15)).length=i*15:=by rw [Y4n,hcl]; omega
   refine YP3 (by rw [YUm,htl,hdl]; omega) fun t ht=> ?_
   rw [k3 _ (by omega),YPm (by omega),g3 _ (by omega)]
   by_cases a:t < i*15
   ·rw [YPm (by omega),List.getElem?_append_left (by omega),List.getElem?_take_of_lt a,hwin _ (by omega)]
   ·rw [YQm (by rw [hdl]; omega),List.getElem?_append_right (by omega),htl]
    congr 1; omega
  rw [hww]
  refine RepL.mono (fun x cs X h hX'=> Rep.frame (w:=w) (fun k hk'=> hother k (hz k hk') (fun e=> hbf (e▸ hk'))) (fun _ h=> h) T87 (fun k hk'=> absurd (hX' k hk') (by simp)) h) hrr
theorem Yud {w:World} {fz:Nat->Prop} {b off cap:Nat} {c:Array Value} {el:TypeId} {fr:Nat×Nat} {ys:List Int} (hb:w.heap[b]? =some (.cells c el fr)) (hlc:ys.length<=cap) (hsz:off+cap<=c.size) (hF:FrT (.int .i64) fr c.size)
  (hw:Ye c off ys.length=ys.map (Value.int .i64)):Rep w fz (.sl true (.int .i64)) ys [.slice (some ⟨b,off,none⟩) ys.length cap] [b]:=by
 refine .inr (.inl ⟨b,off,cap,c,el,fr,[],rfl,hb,hlc,by show off+cap*1<=_; omega,?_,hF,rfl⟩)
 show RepL _ ys (Ye c off (ys.length*1)) []
 rw [Nat.mul_one,hw]
 exact Y18 ys
theorem Y3m (x y:List Int) (h:Yt2 x=some y):Yg2 E ⟨[.sl false (.int .i64)],[.sl true (.int .i64)],none⟩ 70 x y:=by
 unfold Yt2 at h
 cases hd:decide (x.length<=4294967296) with
 | false=> rw [hd] at h; cases h
 | true=>
 rw [hd,YMm] at h
 obtain rfl:=Option.some.inj h
 have hx:=of_decide_eq_true hd
 rintro w fz vs X ⟨cs,rfl,hr⟩ hnd hX hz _
 have hfr:∀ n,FrT (.int .i64) (0,0) n:=fun n=> YA2 _ _ (fun e=> by cases e)
 have hn:¬fz w.heap.size:=fun hf=> by have:=hz _ hf; omega
 have empty:∀ (a:Addr) (c:Nat),x=[]->Calls E.P 70 #[.slice (some a) 0 c] w fun e w'=> Keep w X w'/\∃ fz',FzOk w X fz fz' w'/\∃ rs X',e=.returned (retV rs)/\RepOuts w' fz' [.sl true (.int .i64)] [] x rs [] X'/\X'.Nodup/\∀ b∈X',b < w'.heap.size/\¬fz' b/\(b∈X\/w.heap.size<=b):=by
  rintro a c rfl
  refine (ShD.clone_empty a c w).mono ?_
  rintro e w' ⟨rfl,rfl⟩
  have hk:Keep w X (w.alloc (.cells #[] 3)):=Yv3 _ _ _
  exact ⟨hk,fz,YG1 hz hk.size,_,[w.heap.size],rfl,⟨rfl,[.slice (some ⟨w.heap.size,0,none⟩) 0 0],rfl,Yud (ys:=[]) (c:=#[]) (el:=3) (fr:=(0,0)) (by show (w.heap.push _)[w.heap.size]? =_; simp) (Nat.le_refl _) (Nat.le_refl _) (hfr _) rfl⟩,by simp,
   fun k hkk=> by rw [Yjn] at hkk; subst hkk; exact ⟨by show w.heap.size < (w.heap.push _).size; simp,hn,.inr (Nat.le_refl _)⟩⟩
 rcases hr with ⟨rfl,rfl,rfl⟩ | ⟨b,off,cap,c,el,fr,X',rfl,hb,hlc,hsz,hr,hF,rfl,rfl⟩ | ⟨_,a,rfl,rfl,rfl⟩
 ·refine (ShD.clone_nil 0 0 w).mono ?_
  rintro e w' ⟨rfl,rfl⟩
  exact ⟨Keep.refl _ _,fz,YG1 hz (Nat.le_refl _),_,[],rfl,⟨rfl,[.slice none 0 0],rfl,.inl ⟨rfl,rfl,rfl⟩⟩,List.nodup_nil,by simp⟩
 ·by_cases h0:x.length=0
  ·have hx0:x=[]:=List.length_eq_zero_iff.1 h0
   have:=empty ⟨b,off,none⟩ cap hx0
   show Calls E.P 70 #[.slice (some ⟨b,off,none⟩) x.length cap] w _
   rw [h0]; exact this
  ·obtain ⟨hlw0,-⟩:=Yi6 hr
   have hlw:Ye c off x.length=x.map (Value.int .i64):=by
    have:Ye c off (x.length*1)=x.map (Value.int .i64):=hlw0
    rwa [Nat.mul_one] at this
   refine (ShD.clone_some ⟨b,off,none⟩ x.length cap (x.map (Value.int .i64)) w (by omega) (List.length_map _) (fun j v hj=> by rw [Addr.add_lit,Ym3 hb]; exact Yw9 hlw j v hj) (fun v hv=> by obtain ⟨n,_,rfl⟩:=List.mem_map.1 hv; rfl) hx).mono ?_
   rintro e w' ⟨rfl,rfl⟩
   have hg:=grownCap_ge (w.alloc (.cells #[] 3)) x.length 0 3
   generalize grownCap (w.alloc (.cells #[] 3)) x.length 0 3=G at hg ⊢
   have hk:Keep w [] ((w.alloc (.cells #[] 3)).drew.alloc (.cells (([]++x.map (Value.int .i64):List Value).toArray++Builtin.zeroCells (Value.int .i64 0).cells (G - x.length)) 3)):=Keep.trans (Yv3 w _ _) (Keep.trans (Yw3 _ _) (Yv3 _ _ _) (fun _ h=> .inl h)) (fun _ h=> .inl h)
   have hzs:∀ k,(Builtin.zeroCells (Value.int .i64 0).cells k).size=k:=fun k=> by simp [Builtin.zeroCells,Value.cells]
   have hsz:(([]++x.map (Value.int .i64):List Value).toArray++Builtin.zeroCells (Value.int .i64 0).cells (G - x.length)).size=G:=by
    rw [Array.size_append,hzs]; simp; omega
   refine ⟨hk,fz,YG1 hz hk.size,_,[w.heap.size+1],rfl,⟨rfl,[.slice (some ⟨w.heap.size+1,0,none⟩) x.length G],rfl,Yud (c:=([]++x.map (Value.int .i64):List Value).toArray++Builtin.zeroCells (Value.int .i64 0).cells (G - x.length)) (el:=3) (fr:=(0,0)) ?_ hg (by omega) (hfr _) ?_⟩,by simp,
    fun k hkk=> by rw [Yjn] at hkk; subst hkk; exact ⟨by show w.heap.size+1 < ((w.heap.push _).push _).size; simp,fun hf=> by have:=hz _ hf; omega,.inr (Nat.le_succ _)⟩⟩
   ·show ((w.heap.push _).push _)[w.heap.size+1]? =_
    rw [Array.getElem?_push,YQm (by simp)]
   ·refine YP3 (List.length_map _) fun j hj=> ?_
    rw [Nat.zero_add,Array.getElem?_append_left (by simp; omega),List.getElem?_toArray,Yen]
 ·exact empty a 0 rfl
theorem p211 (x:List UInt8) (y:Int×Bool) (h:YG3 x=some y):YA E 211 x y:=Yam x y h
theorem p69 (x:List D87×(Int×Int)) (y:List D87) (h:Y03 x=some y):YA E 69 x y:=Y6m x y h
theorem p70 (x y:List Int) (h:Yt2 x=some y):YA E 70 x y:=Y3m x y h
end Go.Abs
namespace Go.Abs
open Go.Proofs
theorem p126 (x:List UInt8×Int) (y:Int) (h:YY1 x=some y):YA E 126 x y:=Y7m (E:=E) (fun s n w=> Tryz.strings_IndexByte s n w) x y h
theorem p213 (x:List UInt8×List UInt8) (y:Int) (h:YN1 x=some y):YA E 213 x y:=YPd (E:=E) 0 (by exact List.mem_cons_self ..) (fun s t m w h1 h2=> Tryz.stringslite_Index s t m w h1 h2) x y h
theorem p214 (x:List UInt8×List UInt8) (y:Int) (h:YN1 x=some y):YA E 214 x y:=YPd (E:=E) 0 (by exact List.mem_cons_self ..) (fun s t m w h1 h2=> Tryz.strings_Index s t m w h1 h2) x y h
theorem p137 (x:List (List UInt8)×List UInt8) (y:List UInt8) (h:YF3 x=some y):YA E 137 x y:=Y9m (E:=E) (fun a n s w=> Tryz.strings_Join_none a n s w) (fun bk o n xs sep w h1 h2 h3 h4 h5=> Tryz.strings_Join bk o n xs sep w h1 h2 h3 h4 h5) x y h
theorem Yhc:Y83=(List.range 256).map fun c=> (Lib.firstT c:Int):=by decide+kernel
theorem Yya:Y73=(List.range 16).map fun c=> ((Lib.accLo c:Int),(Lib.accHi c:Int)):=by decide+kernel
theorem p215 (x:List UInt8) (y:Int×Int) (h:YD3 x=some y):YA E 215 x y:=Y5m (E:=E) 2 3 (by exact .head _) (by exact .tail _ (.head _)) Yhc Yya (fun s w h1 h2=> Tryz.utf8_DecodeLastRuneInString s w h1 h2) x y h
theorem p238 (x:List UInt8) (y:Int×Int) (h:Yo4 x=some y):YA E 238 x y:=Y4m (E:=E) 2 3 (by exact .head _) (by exact .tail _ (.head _)) Yhc Yya (fun s w h1=> Tryz.utf8_DecodeRuneInString s w h1) x y h
theorem Yml (f:FuncId) (h:(E.prim f).isSome=true):f∈[126,213,214,215,137,238,277,211,69,70]:=by
 have:=YEk (f:=f) (d:=noFn) fnTab rfl h
 exact (show ∀ x∈fnTab,x.2.2.isSome=true->x.1∈[126,213,214,215,137,238,277,211,69,70] from by
  have:fnTab.all (fun x=> !x.2.2.isSome||[126,213,214,215,137,238,277,211,69,70].any (Nat.beq x.1))=true:=by kernel_rfl
  intro x hx hs
  have:=List.all_eq_true.1 this x hx
  rw [hs] at this
  simpa [Nat.beq_eq] using this) _ this.1 this.2
theorem Ynl (f:FuncId) (g:(E.sig f).arg.den->Option (E.sig f).Out) (x:(E.sig f).arg.den) (y:(E.sig f).Out) (hf:E.prim f=some g) (h:g x=some y):YA E f x y:=by
 have:=Yml f (by rw [hf]; rfl)
 simp only [Y0n,List.not_mem_nil,or_false] at this
 rcases this with rfl | rfl | rfl | rfl | rfl | rfl | rfl | rfl | rfl | rfl
 ·obtain rfl:YY1=g:=Option.some.inj hf
  exact p126 x y h
 ·obtain rfl:YN1=g:=Option.some.inj hf
  exact p213 x y h
 ·obtain rfl:YN1=g:=Option.some.inj hf
  exact p214 x y h
 ·obtain rfl:YD3=g:=Option.some.inj hf
  exact p215 x y h
 ·obtain rfl:YF3=g:=Option.some.inj hf
  exact p137 x y h
 ·obtain rfl:Yo4=g:=Option.some.inj hf
  exact p238 x y h
 ·obtain rfl:YE3=g:=Option.some.inj hf
  exact p277 x y h
 ·obtain rfl:YG3=g:=Option.some.inj hf
  exact p211 x y h
 ·obtain rfl:Y03=g:=Option.some.inj hf
  exact p69 x y h
 ·obtain rfl:Yt2=g:=Option.some.inj hf
  exact p70 x y h
theorem YGb {f:FuncId} {x:(E.sig f).arg.den} {y:(E.sig f).Out} (h:Call E f x=some y):YA E f x y:=YD9 E_ok Ynl h
end Go.Abs
