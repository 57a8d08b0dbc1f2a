/- Part P1 of the proof: see the last text of the claim. No condition of its own. -/
import Derived.Test.YtddagflhafkbnaaGreatDoorE1
import Derived.Test.YtddagflhafkbnaaGreatDoorK8
import Derived.Test.YtddagflhafkbnaaGreatDoorS1
import Derived.KernelRfl
set_option linter.all false
set_option autoImplicit false
namespace Go.Abs
open Go.Proofs
theorem YC3 (b:Nat):∀ (vs:List Value) (o:Nat) (w:World) (c:Array Value) (el:TypeId) (fr:Nat×Nat),w.heap[b]? =some (.cells c el fr)->
  ∃ c',(w.setCells b o vs).heap[b]? =some (.cells c' el fr)/\c'.size=c.size/\∀ k,k < c.size->c'[k]? =if o<=k/\k < o+vs.length then vs[k - o]? else c[k]?
 | [],o,w,c,el,fr,h=> ⟨c,h,rfl,fun k _=> by rw [Yju (by simp)]⟩
 | v::vs,o,w,c,el,fr,h=> by
  have h1:(w.setCell ⟨b,o,none⟩ v).heap[b]? =some (.cells (c.setIfInBounds o v) el fr):=by
   simp only [World.setCell,Array.getElem?_modify]
   rw [Yku trivial,h]; rfl
  obtain ⟨c',g1,g2,g3⟩:=YC3 b vs (o+1) _ _ el fr h1
  refine ⟨c',g1,by rw [g2]; simp,fun k hk=> ?_⟩
  rw [g3 k (by simpa using hk)]
  by_cases e:k=o
  ·subst e
   rw [Yju (by omega),Yku (by simp),Nat.sub_self,Array.getElem?_setIfInBounds_self_of_lt hk]; rfl
  ·rw [Array.getElem?_setIfInBounds_ne (by omega)]
   by_cases a:o+1<=k/\k < o+1+vs.length
   ·rw [Yku a,Yku (by simp only [Ynu]; omega),show k - o=(k - (o+1))+1 by omega]; rfl
   ·rw [Yju a,Yju (by simp only [Ynu]; omega)]
theorem Y4r (w:World) (b o:Nat) (v:Value):Keep w [b] (w.setCell ⟨b,o,none⟩ v):=
 ⟨rfl,rfl,rfl,by simp [World.setCell],fun k _ hk=> RowKit.Below.heap_setCell _ _ _ _ (by simpa using hk)⟩
theorem YF3 (b:Nat):∀ (vs:List Value) (o:Nat) (w:World),Keep w [b] (w.setCells b o vs)
 | [],_,w=> Keep.refl w _
 | v::vs,o,w=> Keep.trans (Y4r w b o v) (YF3 b vs (o+1) _) (fun _ h=> .inl h)
theorem Yo4 (w:World) (X:List Nat):Keep w X w.drew:=⟨rfl,rfl,rfl,Nat.le_refl _,fun _ _ _=> rfl⟩
theorem Yn4 (w:World) (o:Obj) (X:List Nat):Keep w X (w.alloc o):=⟨rfl,rfl,rfl,by simp,fun k hk _=> RowKit.Below.heap_alloc _ _ _ hk⟩
theorem Y46 {w w':World} {X Y:List Nat} (h:Keep w X w') (hX:∀ b∈X,b∈Y\/w.heap.size<=b):Keep w Y w':=
 ⟨h.os,h.tape,h.output,h.size,fun b hb hn=> h.block b hb fun hx=> (hX b hx).elim hn (fun h=> by omega)⟩
theorem YW7 {w:World} {fz:Nat->Prop} {k:IntKind}:∀ {xs:List Int} {cs:List Value} {X:List Nat},RepL (Rep w fz (.int k)) xs cs X->cs=xs.map (Value.int k)/\X=[]
 | [],_,_,h=> h
 | x::xs,_,_,⟨c1,c2,X1,X2,e1,e2,⟨h1,h2⟩,h3⟩=> by
  obtain ⟨rfl,rfl⟩:=YW7 h3
  subst h1 h2 e1 e2
  exact ⟨rfl,rfl⟩
theorem Yha {w:World} {fz:Nat->Prop} {k:IntKind}:∀ (xs:List Int),RepL (Rep w fz (.int k)) xs (xs.map (Value.int k)) []
 | []=> ⟨rfl,rfl⟩
 | x::xs=> ⟨[_],_,[],[],rfl,rfl,⟨rfl,rfl⟩,Yha xs⟩
theorem Yx6 (c:Array Value) (off n j:Nat):(Yl c off n)[j]? =if j < n then c[off+j]? else none:=by
 unfold Yl
 rw [List.getElem?_take,List.getElem?_drop,Y4v]
theorem YZb {c:Array Value} {off n:Nat} {vs:List Value} (h:Yl c off n=vs):∀ (j:Nat) v,vs[j]? =some v->c[off+j]? =some v:=by
 intro j v hv
 rw [<-h,Yx6] at hv
 split at hv
 ·exact hv
 ·cases hv
theorem YE4 {c:Array Value} {off n:Nat} {vs:List Value} (hn:vs.length=n) (h:∀ j,j < n->c[off+j]? =vs[j]?):Yl c off n=vs:=by
 apply List.ext_getElem?
 intro j
 rw [Yx6]
 split
 ·exact h j (by assumption)
 ·rw [List.getElem?_eq_none (by omega)]
theorem Yf4 {w:World} {b o:Nat} {c:Array Value} {el:TypeId} {fr:Nat×Nat} (h:w.heap[b]? =some (.cells c el fr)):w.cell? ⟨b,o,none⟩=c[o]? :=by simp [World.cell?,h]
theorem Y2b (l:List Int):∀ v∈l.map (Value.int .i32),v.oneCell'=true:=by
 intro v hv
 obtain ⟨x,_,rfl⟩:=List.mem_map.1 hv
 rfl
theorem YV7 (l:List Int) (n:Nat) (r:Int):(l.take n++[r]++l.drop n).map (Value.int .i32)=(l.map (Value.int .i32)).take n++[Value.int .i32 r]++(l.map (Value.int .i32)).drop n:=by
 simp [List.map_take,List.map_drop]
theorem YJa (cs:List Value) (n:Nat) (v:Value) (hn:n<=cs.length) (j:Nat):(cs.take n++[v]++cs.drop n)[j]? =if j < n then cs[j]? else if j=n then some v else cs[j - 1]? :=by
 have hl:(cs.take n).length=n:=by rw [Yyu]; omega
 by_cases a:j < n
 ·rw [Yku a,Ypu,List.getElem?_append_left (by omega),List.getElem?_take_of_lt a]
 ·rw [Yju a]
  by_cases b:j=n
  ·rw [Yku b,List.getElem?_append_left (by rw [You,hl]; simp; omega),Ycv (by omega),hl,b,Nat.sub_self]; rfl
  ·rw [Yju b,Ycv (by rw [You,hl]; simp; omega),You,hl,List.getElem?_drop]
   congr 1
   simp; omega
theorem YF4 (k:Nat):(Builtin.zeroCells (Value.int .i32 0).cells k).size=k:=by simp [Builtin.zeroCells,Value.cells]
theorem Yi6 {w:World} {fz:Nat->Prop} {b off cap:Nat} {c:Array Value} {el:TypeId} {fr:Nat×Nat} {ys:List Int} (hb:w.heap[b]? =some (.cells c el fr)) (hlc:ys.length<=cap) (hsz:off+cap<=c.size) (hF:FrT (.int .i32) fr c.size)
  (hw:Yl c off ys.length=ys.map (Value.int .i32)):Rep w fz (.sl true (.int .i32)) ys [.slice (some ⟨b,off,none⟩) ys.length cap] [b]:=by
 refine .inr (.inl ⟨b,off,cap,c,el,fr,[],rfl,hb,hlc,by show off+cap*1<=_; omega,?_,hF,rfl⟩)
 show RepL _ ys (Yl c off (ys.length*1)) []
 rw [Nat.mul_one,hw]
 exact Yha ys
theorem Y26 {w w':World} {fz:Nat->Prop} {X:List Nat} {b:Nat} {l:List Int} {n:Nat} {r:Int} {v:Value} {e:Ending} (hk:Keep w X w') (hz:∀ b,fz b->b < w.heap.size) (he:e=.returned v) (hr:Rep w' fz (.sl true (.int .i32)) (l.take n++[r]++l.drop n) [v] [b])
  (hb:b < w'.heap.size) (hnf:¬fz b) (hbx:b∈X\/w.heap.size<=b):
  Keep w X w'/\∃ fz',FzOk w X fz fz' w'/\∃ rs X',e=.returned (retV rs)/\RepOuts w' fz' [.sl true (.int .i32)] [] (l.take n++[r]++l.drop n) rs [] X'/\X'.Nodup/\∀ b∈X',b < w'.heap.size/\¬fz' b/\(b∈X\/w.heap.size<=b):=
 ⟨hk,fz,Yg2 hz hk.size,[v],[b],he,⟨rfl,_,rfl,hr⟩,by simp,fun k hk=> by rw [YNu] at hk; subst hk; exact ⟨hb,hnf,hbx⟩⟩
theorem Yot (x:List Int×(Int×List Int)) (y:List Int) (h:Yw4 x=some y):YW2 E ⟨[.sl true (.int .i32),.int .i64,.sl true (.int .i32)],[.sl true (.int .i32)],none⟩ 277 x y:=by
 obtain ⟨l,i,v⟩:=x
 unfold Yw4 at h
 dsimp only at h
 cases hd:decide (0<=i)&&(decide (i<=l.length)&&(decide (v.length=1)&&decide (l.length<=4294967296))) with
 | false=> rw [hd] at h; cases h
 | true=>
 rw [hd,Ygu] at h
 obtain rfl:=Option.some.inj h
 simp only [Ylu,Yxu] at hd
 obtain ⟨h0,h1,h2,h3⟩:=hd
 obtain ⟨n,rfl⟩:=Y6v h0
 obtain ⟨r,rfl⟩:=List.length_eq_one_iff.1 h2
 have h1:n<=l.length:=by omega
 rw [Ymu]
 rintro w fz vs X ⟨cs,us,X1,X2,rfl,rfl,hl,cs2,us2,X3,X4,rfl,rfl,⟨rfl,rfl⟩,cs3,rfl,hv⟩ hnd hX hz _
 have hmx:(140737488355328:Nat)<=maxLen:=by decide
 rcases hv with ⟨_,hv,_⟩ | ⟨vb,voff,vcap,vc,vel,vfr,X',rfl,hvb,hvlc,hvsz,hvr,hvF,rfl⟩ | ⟨hv,_⟩
 ·cases hv
 rotate_left
 ·cases hv
 obtain ⟨hvw,rfl⟩:=YW7 hvr
 have hvsz:voff+vcap<=vc.size:=by have:voff+vcap*1<=vc.size:=hvsz; omega
 have hvlc:1<=vcap:=hvlc
 have hvs:∀ (j:Nat) u,([Value.int .i32 r]:List Value)[j]? =some u->w.cell? ⟨vb,voff+j,none⟩=some u:=fun j u hj=> by rw [Yf4 hvb]; exact YZb hvw j u hj
 have h1v:∀ u∈([Value.int .i32 r]:List Value),u.oneCell'=true:=Y2b [r]
 have hcl:(l.map (Value.int .i32)).length=l.length:=YVu _
 have hcap (w:World) (c:Nat):grownCap w (l.length+1) c 21<=9223372036854775807:=grownCap_le_maxLen w _ _ _ (by omega)
 rcases hl with ⟨rfl,hl0,rfl⟩ | ⟨b,off,cap,c,el,fr,X',rfl,hb,hlc,hsz,hr,hF,rfl⟩ | ⟨hl,_⟩
 rotate_right
 ·cases hl
 ·-- nil
  obtain rfl:l=[]:=hl0
  obtain rfl:n=0:=by simpa using h1
  refine (RuneIns.end_grow none 0 0 vb voff 1 vcap [] [Value.int .i32 r] w (by omega) (by omega) (by omega) (by omega) rfl rfl (fun _=> rfl) (fun a ha=> by cases ha) hvs h1v).mono ?_
  rintro e w' ⟨rfl,rfl⟩
  have hg:=grownCap_ge w (0+1) 0 21
  have hk:Keep w ([]++([]++[vb])) (w.drew.alloc (.cells (([]++[Value.int .i32 r]:List Value).toArray++Builtin.zeroCells (Value.int .i32 0).cells (grownCap w (0+1) 0 21 - (0+1))) 21)):=Keep.trans (Yo4 w _) (Yn4 _ _ _) (fun _ h=> .inl h)
  refine Y26 (l:=[]) (n:=0) (b:=w.heap.size) hk hz rfl (Yi6 (ys:=[r]) (fr:=(0,0)) (el:=21) (c:=([]++[Value.int .i32 r]:List Value).toArray++Builtin.zeroCells (Value.int .i32 0).cells (grownCap w (0+1) 0 21 - (0+1))) ?_ ?_ ?_ ?_ ?_) ?_ (fun hf=> by have:=hz _ hf; omega) (.inr (Nat.le_refl _))
  ·show (w.heap.push _)[w.heap.size]? =_
   simp
  ·exact hg
  ·rw [Array.size_append,YF4]; simp; omega
  ·refine Ym3 _ _ fun _=> ?_
   rw [Array.size_append,YF4]
   have:grownCap w (0+1) 0 21<=9223372036854775807:=hcap w 0
   show 1+(grownCap w (0+1) 0 21 - (0+1))<=_
   omega
  ·refine YE4 rfl fun j hj=> ?_
   have:j=0:=by simpa using hj
   subst this
   rw [Y2v,Array.getElem?_append_left (by simp)]; rfl
  ·show w.heap.size < (w.heap.push _).size
   simp
 ·-- a block
  obtain ⟨hlw0,rfl⟩:=YW7 hr
  have hsz:off+cap<=c.size:=by have:off+cap*1<=c.size:=hsz; omega
  have hlw:Yl c off l.length=l.map (Value.int .i32):=by
   have:Yl c off (l.length*1)=l.map (Value.int .i32):=hlw0
   rwa [Nat.mul_one] at this
  have hcs:∀ (j:Nat) u,(l.map (Value.int .i32))[j]? =some u->w.cell? ⟨b,off+j,none⟩=some u:=fun j u hj=> by rw [Yf4 hb]; exact YZb hlw j u hj
  have hlt:b < w.heap.size:=(Array.getElem?_eq_some_iff.1 hb).1
  have hne:vb≠b:=by
   rintro rfl
   simp at hnd
  have hbX:b∈([b]++([]++[vb]):List Nat):=by simp
  have hbf:=(hX b hbX).2
  have hyl:(l.take n++[r]++l.drop n).length=l.length+1:=by simp; omega
  by_cases room:l.length+1<=cap
  ·by_cases hin:n < l.length
   ·refine (RuneIns.shift b off l.length cap n vb voff 1 vcap (l.map (Value.int .i32)) [Value.int .i32 r] w hin (by omega) room (by have:=hF.2.2 rfl; omega) hne hcl rfl hcs
     (fun j hj=> by rw [Yf4 hb,Y1v (by omega)]; rfl) (fun j hj=> Y06 hb hF.1 (by omega)) hvs (Y2b l) h1v vel el vc.size c.size (by simp [World.shape?,hvb]) (by simp [World.shape?,hb]) (by omega) (Y06 hvb hvF.1 (by omega))
     (by
      have:=hvF.2.1 (by intro e; cases e)
      simp only [World.frozen?,hvb,Bool.and_eq_false_imp,Yxu,decide_eq_false_iff_not]
      intro a1 a2; exact this ⟨a1,a2⟩)).mono ?_
    rintro e w' ⟨rfl,rfl⟩
    obtain ⟨c1,g1,g2,g3⟩:=YC3 b ((l.map (Value.int .i32)).drop n) (off+(n+1)) w.drew c el fr hb
    obtain ⟨c2,k1,k2,k3⟩:=YC3 b [Value.int .i32 r] (off+n) _ c1 el fr g1
    have hk:Keep w ([b]++([]++[vb])) ((w.drew.setCells b (off+(n+1)) ((l.map (Value.int .i32)).drop n)).setCells b (off+n) [Value.int .i32 r]):=
     Keep.trans (Yo4 w _) (Keep.trans (Y46 (YF3 b _ _ _) (fun k hk=> .inl (by rw [YNu] at hk; subst hk; exact hbX))) (Y46 (YF3 b _ _ _) (fun k hk=> .inl (by rw [YNu] at hk; subst hk; exact hbX))) (fun _ h=> .inl h)) (fun _ h=> .inl h)
    refine Y26 (b:=b) hk hz (v:=.slice (some ⟨b,off,none⟩) (l.length+1) cap) rfl ?_ (Nat.lt_of_lt_of_le hlt hk.size) hbf (.inl hbX)
    have hfin:=Yi6 (w:=(w.drew.setCells b (off+(n+1)) ((l.map (Value.int .i32)).drop n)).setCells b (off+n) [Value.int .i32 r]) (fz:=fz) (b:=b) (off:=off) (cap:=cap) (c:=c2) (el:=el) (fr:=fr) (ys:=l.take n++[r]++l.drop n) k1 (by omega) (by omega) (by rw [k2,g2]; exact hF) ?_
    ·rw [hyl] at hfin; exact hfin
    ·refine YE4 (by simp) fun j hj=> ?_
     rw [hyl] at hj
     rw [k3 _ (by omega),g3 _ (by omega),YV7,YJa _ _ _ (by omega)]
     have hdl:((l.map (Value.int .i32)).drop n).length=l.length - n:=by simp
     by_cases a:j < n
     ·rw [Yju (by simp; omega),Yju (by omega),Yku a]
      have:=Yx6 c off l.length j
      rw [Yku (by omega),hlw] at this
      exact this.symm
     ·rw [Yju a]
      by_cases b':j=n
      ·subst b'
       rw [Yku (by simp),Yku rfl,Nat.sub_self]; rfl
      ·rw [Yju (by simp; omega),Yku (by rw [hdl]; omega),Yju b',List.getElem?_drop]
       congr 1; omega
   ·obtain rfl:n=l.length:=by omega
    refine (RuneIns.end_room b off l.length cap vb voff 1 vcap [Value.int .i32 r] w (by omega) room (by have:=hF.2.2 rfl; omega) rfl
     (fun j hj=> by rw [Yf4 hb,Y1v (by omega)]; rfl) (fun j hj=> Y06 hb hF.1 (by omega)) hvs h1v).mono ?_
    rintro e w' ⟨rfl,rfl⟩
    obtain ⟨c2,k1,k2,k3⟩:=YC3 b [Value.int .i32 r] (off+l.length) w c el fr hb
    have hk:Keep w ([b]++([]++[vb])) (w.setCells b (off+l.length) [Value.int .i32 r]):=
     Y46 (YF3 b _ _ _) (fun k hk=> .inl (by rw [YNu] at hk; subst hk; exact hbX))
    refine Y26 (b:=b) hk hz (v:=.slice (some ⟨b,off,none⟩) (l.length+1) cap) rfl ?_ (Nat.lt_of_lt_of_le hlt hk.size) hbf (.inl hbX)
    have hfin:=Yi6 (w:=w.setCells b (off+l.length) [Value.int .i32 r]) (fz:=fz) (b:=b) (off:=off) (cap:=cap) (c:=c2) (el:=el) (fr:=fr) (ys:=l.take l.length++[r]++l.drop l.length) k1 (by omega) (by omega) (by rw [k2]; exact hF) ?_
    ·rw [hyl] at hfin; exact hfin
    ·refine YE4 (by simp) fun j hj=> ?_
     rw [hyl] at hj
     rw [k3 _ (by omega),YV7,YJa _ _ _ (by omega)]
     by_cases a:j < l.length
     ·rw [Yju (by simp; omega),Yku a]
      have:=Yx6 c off l.length j
      rw [Yku (by omega),hlw] at this
      exact this.symm
     ·obtain rfl:j=l.length:=by omega
      rw [Yku (by simp),Yju (by omega),Yku rfl,Nat.sub_self]; rfl
  ·by_cases hin:n < l.length
   ·refine (RuneIns.grow b off l.length cap n vb voff 1 vcap (l.map (Value.int .i32)) [Value.int .i32 r] w hin (by omega) hlc (by omega) (by omega) hcl rfl hcs hvs (Y2b l) h1v).mono ?_
    rintro e w' ⟨rfl,rfl⟩
    have hg:=grownCap_ge w (l.length+1) cap 21
    have hgc:=hcap w cap
    have hzs:=fun k=> YF4 k
    generalize grownCap w (l.length+1) cap 21=G at hg hgc ⊢
    have hRs:(((l.map (Value.int .i32)).take n).toArray++Builtin.zeroCells (Value.int .i32 0).cells (l.length+1 - n)++Builtin.zeroCells (Value.int .i32 0).cells (G - (l.length+1))).size=G:=by
     rw [Array.size_append,Array.size_append,YF4,YF4]; simp; omega
    have hRg:∀ j,j < n->(((l.map (Value.int .i32)).take n).toArray++Builtin.zeroCells (Value.int .i32 0).cells (l.length+1 - n)++Builtin.zeroCells (Value.int .i32 0).cells (G - (l.length+1)))[j]? =(l.map (Value.int .i32))[j]? :=by
     intro j hj
     rw [Array.getElem?_append_left (by rw [Array.size_append,YF4]; simp; omega),Array.getElem?_append_left (by simp; omega),List.getElem?_toArray,List.getElem?_take_of_lt hj]
    generalize ((l.map (Value.int .i32)).take n).toArray++Builtin.zeroCells (Value.int .i32 0).cells (l.length+1 - n)++Builtin.zeroCells (Value.int .i32 0).cells (G - (l.length+1))=R at hRs hRg ⊢
    have hN:(w.alloc (.cells R 21)).drew.heap[w.heap.size]? =some (.cells R 21 (0,0)):=by
     show (w.heap.push _)[w.heap.size]? =_
     simp
    obtain ⟨c1,g1,g2,g3⟩:=YC3 w.heap.size [Value.int .i32 r] n (w.alloc (.cells R 21)).drew R 21 (0,0) hN
    obtain ⟨c2,k1,k2,k3⟩:=YC3 w.heap.size ((l.map (Value.int .i32)).drop n) (n+1) ((w.alloc (.cells R 21)).drew.setCells w.heap.size n [Value.int .i32 r]).drew c1 21 (0,0) g1
    have hk:Keep w ([b]++([]++[vb])) ((((w.alloc (.cells R 21)).drew.setCells w.heap.size n [Value.int .i32 r]).drew).setCells w.heap.size (n+1) ((l.map (Value.int .i32)).drop n)):=by
     refine Y46 (X:=[w.heap.size]) ?_ (fun k hk=> .inr (by rw [YNu] at hk; omega))
     exact Keep.trans (Keep.trans (Keep.trans (Yn4 w _ _) (Yo4 _ _) (fun _ h=> .inl h)) (Keep.trans (YF3 _ _ _ _) (Yo4 _ _) (fun _ h=> .inl h)) (fun _ h=> .inl h)) (YF3 _ _ _ _) (fun _ h=> .inl h)
    refine Y26 (b:=w.heap.size) hk hz (v:=.slice (some ⟨w.heap.size,0,none⟩) (l.length+1) G) rfl ?_ ((Array.getElem?_eq_some_iff.1 k1).1) (fun hf=> by have:=hz _ hf; omega) (.inr (Nat.le_refl _))
    have hfin:=Yi6 (fz:=fz) (b:=w.heap.size) (off:=0) (cap:=G) (c:=c2) (el:=21) (fr:=(0,0)) (ys:=l.take n++[r]++l.drop n) k1 (by omega) (by omega) (Ym3 _ _ fun _=> by rw [k2,g2,hRs]; exact hgc) ?_
    ·rw [hyl] at hfin; exact hfin
    ·refine YE4 (by simp) fun j hj=> ?_
     rw [hyl] at hj
     have hdl:((l.map (Value.int .i32)).drop n).length=l.length - n:=by simp
     rw [Y2v,k3 _ (by omega),g3 _ (by omega),YV7,YJa _ _ _ (by omega)]
     by_cases a:j < n
     ·rw [Yju (by rw [hdl]; omega),Yju (by simp; omega),Yku a,hRg j a]
     ·rw [Yju a]
      by_cases b':j=n
      ·subst b'
       rw [Yju (by omega),Yku (by simp),Yku rfl,Nat.sub_self]; rfl
      ·rw [Yku (by rw [hdl]; omega),Yju b',List.getElem?_drop]
       congr 1; omega
   ·obtain rfl:n=l.length:=by omega
    refine (RuneIns.end_grow (some ⟨b,off,none⟩) l.length cap vb voff 1 vcap (l.map (Value.int .i32)) [Value.int .i32 r] w (by omega) hlc (by omega) (by omega) hcl rfl (fun h=> by cases h)
     (fun a ha j u hj=> by cases ha; rw [Addr.add_lit]; exact hcs j u hj) hvs h1v).mono ?_
    rintro e w' ⟨rfl,rfl⟩
    have hg:=grownCap_ge w (l.length+1) cap 21
    have hgc:=hcap w cap
    generalize grownCap w (l.length+1) cap 21=G at hg hgc ⊢
    have hRs:((l.map (Value.int .i32)++[Value.int .i32 r]).toArray++Builtin.zeroCells (Value.int .i32 0).cells (G - (l.length+1))).size=G:=by
     rw [Array.size_append,YF4]; simp; omega
    have hk:Keep w ([b]++([]++[vb])) (w.drew.alloc (.cells ((l.map (Value.int .i32)++[Value.int .i32 r]).toArray++Builtin.zeroCells (Value.int .i32 0).cells (G - (l.length+1))) 21)):=Keep.trans (Yo4 w _) (Yn4 _ _ _) (fun _ h=> .inl h)
    refine Y26 (b:=w.heap.size) hk hz (v:=.slice (some ⟨w.heap.size,0,none⟩) (l.length+1) G) rfl ?_ (by show w.heap.size < (w.heap.push _).size; simp) (fun hf=> by have:=hz _ hf; omega) (.inr (Nat.le_refl _))
    have hfin:=Yi6 (w:=w.drew.alloc (.cells ((l.map (Value.int .i32)++[Value.int .i32 r]).toArray++Builtin.zeroCells (Value.int .i32 0).cells (G - (l.length+1))) 21)) (fz:=fz) (b:=w.heap.size) (off:=0) (cap:=G) (el:=21) (fr:=(0,0)) (ys:=l.take l.length++[r]++l.drop l.length)
     (by show (w.heap.push _)[w.heap.size]? =_; simp; rfl) (by omega) (by rw [hRs]; omega) (Ym3 _ _ fun _=> by rw [hRs]; exact hgc) ?_
    ·rw [hyl] at hfin; exact hfin
    ·refine YE4 (by simp) fun j hj=> ?_
     rw [hyl] at hj
     rw [Y2v,Array.getElem?_append_left (by simp; omega),List.getElem?_toArray,YV7,YWu (by omega),YPu (by omega),YHu]
theorem p277 (x:List Int×(Int×List Int)) (y:List Int) (h:Yw4 x=some y):YS E 277 x y:=Yot x y h
end Go.Abs
namespace Go.Abs
open Go.Proofs
theorem Yls:ShD.ports=.map [(.string [102,116,112],.lit (.int .i64 21)),(.string [104,116,116,112],.lit (.int .i64 80)),(.string [104,116,116,112,115],.lit (.int .i64 443)),(.string [119,115],.lit (.int .i64 80)),(.string [119,115,115],.lit (.int .i64 443))]:=by kernel_rfl
theorem Yks (s:List UInt8) (c:Int) (h:ShD.ports.atKey (.string s) (.lit (.int .i64 0))=.lit (.int .i64 c)):
  (c,Maps.has ShD.ports (.string s))=(bif s==[104,116,116,112] then (80,true) else bif s==[104,116,116,112,115] then (443,true) else bif s==[119,115] then (80,true) else bif s==[119,115,115] then (443,true) else bif s==[102,116,112] then (21,true) else (0,false)):=by
 rw [Yls] at h ⊢
 simp only [DataW.atKey,List.find?_cons,List.find?_nil,Lit.sameKey] at h
 simp only [Maps.has_eq,List.any_cons,List.any_nil,Lit.sameKey]
 have key:∀ {t:List UInt8} {n:Int},s=t->(DataW.lit (.int .i64 n):DataW Unit)=.lit (.int .i64 c)->c=n:=fun _ h=> by injection h with h; injection h with _ h; exact h.symm
 by_cases e1:s=[104,116,116,112]
 ·subst e1; exact Prod.ext (key rfl h) rfl
 by_cases e2:s=[104,116,116,112,115]
 ·subst e2; exact Prod.ext (key rfl h) rfl
 by_cases e3:s=[119,115]
 ·subst e3; exact Prod.ext (key rfl h) rfl
 by_cases e4:s=[119,115,115]
 ·subst e4; exact Prod.ext (key rfl h) rfl
 by_cases e5:s=[102,116,112]
 ·subst e5; exact Prod.ext (key rfl h) rfl
 have f:∀ {t:List UInt8},s≠t->(t==s)=false:=fun h=> Yqu.2 (fun e=> h e.symm)
 have g:∀ {t:List UInt8},s≠t->(s==t)=false:=fun h=> Yqu.2 h
 rw [f e1,f e2,f e3,f e4,f e5] at h ⊢
 rw [g e1,g e2,g e3,g e4,g e5]
 exact Prod.ext (key rfl h) rfl
theorem Yqt (x:List UInt8) (y:Int×Bool) (h:Yy4 x=some y):YW2 E ⟨[.str],[.int .i64,.bool],none⟩ 211 x y:=by
 unfold Yy4 at h
 cases hd:decide (x.length<=140737488355328) with
 | false=> rw [hd] at h; cases h
 | true=>
 rw [hd,Ygu] at h
 have hx:=YQu hd
 rintro w fz vs X ⟨cs,rfl,rfl,rfl⟩ _ _ hz _
 have hmx:(140737488355328:Nat)<=maxLen:=by decide
 refine (ShD.port_walk ⟨x.toArray⟩ (by simp [ByteArray.size]; omega) w).mono ?_
 rintro e w' ⟨c,rfl,hc,es,c',rfl⟩
 have hy:(c,Maps.has ShD.ports (.string x))=y:=(Yks x c hc).trans (Option.some.inj h)
 subst hy
 have hk:Keep w [] (w.alloc (.map es c')):=Yn4 _ _ _
 exact ⟨hk,fz,Yg2 hz hk.size,[.int .i64 c,.bool _],[],rfl,⟨[.int .i64 c],_,[],[],rfl,rfl,⟨rfl,rfl⟩,rfl,_,rfl,rfl,rfl⟩,List.nodup_nil,by simp⟩
theorem YGp {v:Value} (h:YZ v):v.oneCell'=true:=by cases v <;> first | rfl | cases h
theorem Ygq {w:World} {fz:Nat->Prop} {cs:List Value} {l:List D87} {X:List Nat} (h:RepL (Rep w fz T87) l cs X):cs.length=l.length*15/\(∀ v∈cs,v.oneCell'=true)/\X=[]:=
 ⟨RepL.length (fun x cs X h=> Rep.length T87 h) h,fun v hv=> YGp (RepL.cells (fun x cs X h=> Rep.cells T87 h) h v hv),RepL.pure (fun x cs X h=> Rep.pure T87 (by rfl) h) h⟩
theorem Ymt (x:List D87×(Int×Int)) (y:List D87) (h:YN3 x=some y):YW2 E ⟨[.sl true T87,.int .i64,.int .i64],[.sl true T87],none⟩ 69 x y:=by
 obtain ⟨l,i,j⟩:=x
 unfold YN3 at h
 dsimp only at h
 cases hd:decide (0<=i)&&(decide (i<=j)&&(decide (j<=(l.length:Int))&&decide (l.length<=4294967296))) with
 | false=> rw [hd] at h; cases h
 | true=>
 rw [hd,Ygu] at h
 obtain rfl:=Option.some.inj h
 simp only [Ylu,Yxu] at hd
 obtain ⟨h0,h1,h2,h3⟩:=hd
 obtain ⟨i,rfl⟩:=Y6v h0
 obtain ⟨j,rfl⟩:=Y6v (show 0<=j by omega)
 have h1:i<=j:=by omega
 have h2:j<=l.length:=by omega
 rw [Ymu,Ymu]
 rintro w fz vs X ⟨cs,us,X1,X2,rfl,rfl,hl,cs2,us2,X3,X4,rfl,rfl,⟨rfl,rfl⟩,cs3,rfl,⟨rfl,rfl⟩⟩ hnd hX hz _
 have hself:i=j->l.take i++l.drop j=l:=fun e=> by subst e; exact Ybv i l
 by_cases hij:i=j
 ·subst hij
  rw [hself rfl]
  have fin:∀ (a:Option Addr) (cap:Nat),cs=[.slice a l.length cap]->l.length<=cap->Calls E.P 69 [mkV (Ty.sl true T87).isAgg cs,mkV (Ty.int .i64).isAgg [.int .i64 i],mkV (Ty.int .i64).isAgg [.int .i64 i]].toArray w fun e w'=> Keep w (X1++([]++[])) w'/\∃ fz',FzOk w (X1++([]++[])) fz fz' w'/\∃ rs X',e=.returned (retV rs)/\RepOuts w' fz' [.sl true T87] [] l rs [] X'/\X'.Nodup/\∀ b∈X',b < w'.heap.size/\¬fz' b/\(b∈(X1++([]++[]))\/w.heap.size<=b):=by
   rintro a cap rfl hlc
   refine (ShD.delete_none a l.length cap i w h2 hlc h3).mono ?_
   rintro e w' ⟨rfl,rfl⟩
   rw [YHu,YHu] at hnd hX ⊢
   exact ⟨Keep.refl _ _,fz,Yg2 hz (Nat.le_refl _),[.slice a l.length cap],X1,rfl,⟨rfl,_,rfl,hl⟩,hnd,fun b hb=> ⟨(hX b hb).1,(hX b hb).2,.inl hb⟩⟩
  rcases hl with ⟨rfl,hl0,rfl⟩ | ⟨b,off,cap,c,el,fr,X',rfl,hb,hlc,hsz,hr,hF,rfl⟩ | ⟨hl,_⟩
  ·exact fin none 0 (by rw [show l=[] from hl0]; rfl) (by rw [show l=[] from hl0]; exact Nat.le_refl _)
  ·exact fin _ _ rfl hlc
  ·cases hl
 ·have hlt:i < j:=by omega
  rcases hl with ⟨rfl,hl0,rfl⟩ | ⟨b,off,cap,c,el,fr,X',rfl,hb,hlc,hsz,hr,hF,rfl⟩ | ⟨hl,_⟩
  ·have:l=[]:=hl0
   subst this
   simp at h2; omega
  rotate_left
  ·cases hl
  obtain ⟨hcl,hc1,rfl⟩:=Ygq hr
  have hsz:off+cap*15<=c.size:=hsz
  have hr:RepL (Rep w fz T87) l (Yl c off (l.length*15)) []:=hr
  have hcl:(Yl c off (l.length*15)).length=l.length*15:=hcl
  have hc1:∀ v∈Yl c off (l.length*15),v.oneCell'=true:=hc1
  have hlc:l.length<=cap:=hlc
  generalize hcs:Yl c off (l.length*15)=cs0 at hr hcl hc1
  have hcap:l.length*15<=cap*15:=YTu _ hlc
  have hlt0:b < w.heap.size:=Y73 hb
  have hbX:b∈([b]++([]++[]):List Nat):=by simp
  have hbf:=(hX b hbX).2
  obtain ⟨z0,hz0,hz0s,hz0c⟩:∃ z0,(∀ w,(zeroValue 88).run Tryz.prog w=.ok z0 w)/\z0.cells.size=15/\z0.cells.toList.all (fun v=> v.oneCell')=true:=⟨_,Tryz.zeroValue88,by kernel_rfl,by kernel_rfl⟩
  have zl:∀ k,(Builtin.zeroCells z0.cells k).toList.length=k*15:=fun k=> by simp [Builtin.zeroCells,hz0s]
  have z1:∀ k,∀ v∈(Builtin.zeroCells z0.cells k).toList,v.oneCell'=true:=fun k v hv=> by
   simp only [Builtin.zeroCells,Array.toList_map,List.mem_map,Array.mem_toList_iff,Array.mem_range] at hv
   obtain ⟨q,hq,rfl⟩:=hv
   rw [hz0s] at hq ⊢
   have hm:q % 15 < z0.cells.size:=by rw [hz0s]; omega
   rw [getElem!_pos z0.cells _ hm]
   exact Y3v.1 hz0c _ (Array.getElem_mem_toList hm)
  have hwin:∀ t,t < l.length*15->c[off+t]? =cs0[t]? :=fun t ht=> by
   have:=Yx6 c off (l.length*15) t
   rw [Yku ht,hcs] at this
   exact this.symm
  have hin:∀ t,t < l.length*15->off+t < c.size:=fun t ht=> by omega
  refine (ShD.delete_some b off l.length cap i j (cs0.drop (j*15)) (Builtin.zeroCells z0.cells (l.length - (i+(l.length - j)))).toList w hlt h2 hlc h3 ?_ ?_ ?_ ?_ ?_ ?_ ?_ ?_).mono ?_
  ·rw [Yzu,hcl]; omega
  ·intro t u hu
   rw [List.getElem?_drop] at hu
   have ht:j*15+t < l.length*15:=by rw [<-hcl]; exact (List.getElem?_eq_some_iff.1 hu).1
   rw [Yf4 hb,Nat.add_assoc,hwin _ ht]; exact hu
  ·intro u hu; exact hc1 u (List.mem_of_mem_drop hu)
  ·intro t ht
   rw [Yf4 hb,Y1v (hin t ht)]; rfl
  ·intro t ht; exact Y06 hb hF.1 (hin t ht)
  ·intro z hz
   have:=(hz w).symm.trans (hz0 w)
   injection this with e
   rw [e]
  ·exact z1 _
  ·rw [zl]; omega
  rintro e w' ⟨rfl,rfl⟩
  generalize hzz:(Builtin.zeroCells z0.cells (l.length - (i+(l.length - j)))).toList=zs
  have hzl:zs.length=(l.length - (i+(l.length - j)))*15:=by rw [<-hzz]; exact zl _
  obtain ⟨c1,g1,g2,g3⟩:=YC3 b (cs0.drop (j*15)) (off+i*15) w.drew c el fr hb
  obtain ⟨c2,k1,k2,k3⟩:=YC3 b zs (off+(i+(l.length - j))*15) _ c1 el fr g1
  generalize hw':(w.drew.setCells b (off+i*15) (cs0.drop (j*15))).setCells b (off+(i+(l.length - j))*15) zs=w' at k1
  have hkb:Keep w [b] w':=by
   rw [<-hw']
   exact Keep.trans (Yo4 w _) (Keep.trans (YF3 b _ _ _) (YF3 b _ _ _) (fun _ h=> .inl h)) (fun _ h=> .inl h)
  have hk:Keep w ([b]++([]++[])) w':=Y46 hkb (fun k hk=> .inl (by rw [YNu] at hk; subst hk; exact hbX))
  have hother:∀ k,k < w.heap.size->k≠b->w'.heap[k]? =w.heap[k]? :=fun k hk' hne=> hkb.block k hk' (by simpa using hne)
  have hdl:(cs0.drop (j*15)).length=(l.length - j)*15:=by rw [Yzu,hcl]; omega
  have hyl:(l.take i++l.drop j).length=i+(l.length - j):=by rw [You,Yyu,Yzu]; omega
  refine ⟨hk,fz,Yg2 hz hk.size,[.slice (some ⟨b,off,none⟩) (i+(l.length - j)) cap],[b],rfl,⟨rfl,[.slice (some ⟨b,off,none⟩) (i+(l.length - j)) cap],rfl,?_⟩,by simp,fun k hkk=> by rw [YNu] at hkk; subst hkk; exact ⟨Nat.lt_of_lt_of_le hlt0 hk.size,hbf,.inl hbX⟩⟩
  refine .inr (.inl ⟨b,off,cap,c2,el,fr,[],by rw [hyl],k1,by rw [hyl]; omega,by show off+cap*15<=_; omega,?_,by rw [k2,g2]; exact hF,rfl⟩)
  rw [hyl]
  show RepL _ _ (Yl c2 off ((i+(l.length - j))*15)) []
  have hpure:∀ (x:D87) cs X,Rep w fz T87 x cs X->cs.length=15/\X=[]:=fun x cs X h=> ⟨Rep.length T87 h,Rep.pure T87 (by rfl) h⟩
  have hrr:RepL (Rep w fz T87) (l.take i++l.drop j) (cs0.take (i*15)++cs0.drop (j*15)) []:=by
   have:=RepL.append (RepL.take hpure i hr) (RepL.drop hpure j hr)
   exact this
  have hww:Yl c2 off ((i+(l.length - j))*15)=cs0.take (i*15)++cs0.drop (j*15):=by
   have htl:(cs0.take (i*15)).length=i*15:=by rw [Yyu,hcl]; omega
   refine YE4 (by rw [You,htl,hdl]; omega) fun t ht=> ?_
   rw [k3 _ (by omega),Yju (by omega),g3 _ (by omega)]
   by_cases a:t < i*15
   ·rw [Yju (by omega),List.getElem?_append_left (by omega),List.getElem?_take_of_lt a,hwin _ (by omega)]
   ·rw [Yku (by rw [hdl]; omega),Ycv (by omega),htl]
    congr 1; omega
  rw [hww]
  refine RepL.mono (fun x cs X h hX'=> Rep.frame (w:=w) (fun k hk'=> hother k (hz k hk') (fun e=> hbf (e▸ hk'))) (fun _ h=> h) T87 (fun k hk'=> absurd (hX' k hk') (by simp)) h) hrr
theorem YKh {w:World} {fz:Nat->Prop} {b off cap:Nat} {c:Array Value} {el:TypeId} {fr:Nat×Nat} {ys:List Int} (hb:w.heap[b]? =some (.cells c el fr)) (hlc:ys.length<=cap) (hsz:off+cap<=c.size) (hF:FrT (.int .i64) fr c.size)
  (hw:Yl c off ys.length=ys.map (Value.int .i64)):Rep w fz (.sl true (.int .i64)) ys [.slice (some ⟨b,off,none⟩) ys.length cap] [b]:=by
 refine .inr (.inl ⟨b,off,cap,c,el,fr,[],rfl,hb,hlc,by show off+cap*1<=_; omega,?_,hF,rfl⟩)
 show RepL _ ys (Yl c off (ys.length*1)) []
 rw [Nat.mul_one,hw]
 exact Yha ys
theorem Yjt (x y:List Int) (h:YM3 x=some y):YW2 E ⟨[.sl false (.int .i64)],[.sl true (.int .i64)],none⟩ 70 x y:=by
 unfold YM3 at h
 cases hd:decide (x.length<=4294967296) with
 | false=> rw [hd] at h; cases h
 | true=>
 rw [hd,Ygu] at h
 obtain rfl:=Option.some.inj h
 have hx:=YQu hd
 rintro w fz vs X ⟨cs,rfl,hr⟩ hnd hX hz _
 have hfr:∀ n,FrT (.int .i64) (0,0) n:=fun n=> Ym3 _ _ (fun e=> by cases e)
 have hn:¬fz w.heap.size:=fun hf=> by have:=hz _ hf; omega
 have empty:∀ (a:Addr) (c:Nat),x=[]->Calls E.P 70 #[.slice (some a) 0 c] w fun e w'=> Keep w X w'/\∃ fz',FzOk w X fz fz' w'/\∃ rs X',e=.returned (retV rs)/\RepOuts w' fz' [.sl true (.int .i64)] [] x rs [] X'/\X'.Nodup/\∀ b∈X',b < w'.heap.size/\¬fz' b/\(b∈X\/w.heap.size<=b):=by
  rintro a c rfl
  refine (ShD.clone_empty a c w).mono ?_
  rintro e w' ⟨rfl,rfl⟩
  have hk:Keep w X (w.alloc (.cells #[] 3)):=Yn4 _ _ _
  exact ⟨hk,fz,Yg2 hz hk.size,_,[w.heap.size],rfl,⟨rfl,[.slice (some ⟨w.heap.size,0,none⟩) 0 0],rfl,YKh (ys:=[]) (c:=#[]) (el:=3) (fr:=(0,0)) (by show (w.heap.push _)[w.heap.size]? =_; simp) (Nat.le_refl _) (Nat.le_refl _) (hfr _) rfl⟩,by simp,
   fun k hkk=> by rw [YNu] at hkk; subst hkk; exact ⟨by show w.heap.size < (w.heap.push _).size; simp,hn,.inr (Nat.le_refl _)⟩⟩
 rcases hr with ⟨rfl,rfl,rfl⟩ | ⟨b,off,cap,c,el,fr,X',rfl,hb,hlc,hsz,hr,hF,rfl,rfl⟩ | ⟨_,a,rfl,rfl,rfl⟩
 ·refine (ShD.clone_nil 0 0 w).mono ?_
  rintro e w' ⟨rfl,rfl⟩
  exact ⟨Keep.refl _ _,fz,Yg2 hz (Nat.le_refl _),_,[],rfl,⟨rfl,[.slice none 0 0],rfl,.inl ⟨rfl,rfl,rfl⟩⟩,List.nodup_nil,by simp⟩
 ·by_cases h0:x.length=0
  ·have hx0:x=[]:=List.length_eq_zero_iff.1 h0
   have:=empty ⟨b,off,none⟩ cap hx0
   show Calls E.P 70 #[.slice (some ⟨b,off,none⟩) x.length cap] w _
   rw [h0]; exact this
  ·obtain ⟨hlw0,-⟩:=YW7 hr
   have hlw:Yl c off x.length=x.map (Value.int .i64):=by
    have:Yl c off (x.length*1)=x.map (Value.int .i64):=hlw0
    rwa [Nat.mul_one] at this
   refine (ShD.clone_some ⟨b,off,none⟩ x.length cap (x.map (Value.int .i64)) w (by omega) (YVu _) (fun j v hj=> by rw [Addr.add_lit,Yf4 hb]; exact YZb hlw j v hj) (fun v hv=> by obtain ⟨n,_,rfl⟩:=List.mem_map.1 hv; rfl) hx).mono ?_
   rintro e w' ⟨rfl,rfl⟩
   have hg:=grownCap_ge (w.alloc (.cells #[] 3)) x.length 0 3
   generalize grownCap (w.alloc (.cells #[] 3)) x.length 0 3=G at hg ⊢
   have hk:Keep w [] ((w.alloc (.cells #[] 3)).drew.alloc (.cells (([]++x.map (Value.int .i64):List Value).toArray++Builtin.zeroCells (Value.int .i64 0).cells (G - x.length)) 3)):=Keep.trans (Yn4 w _ _) (Keep.trans (Yo4 _ _) (Yn4 _ _ _) (fun _ h=> .inl h)) (fun _ h=> .inl h)
   have hzs:∀ k,(Builtin.zeroCells (Value.int .i64 0).cells k).size=k:=fun k=> by simp [Builtin.zeroCells,Value.cells]
   have hsz:(([]++x.map (Value.int .i64):List Value).toArray++Builtin.zeroCells (Value.int .i64 0).cells (G - x.length)).size=G:=by
    rw [Array.size_append,hzs]; simp; omega
   refine ⟨hk,fz,Yg2 hz hk.size,_,[w.heap.size+1],rfl,⟨rfl,[.slice (some ⟨w.heap.size+1,0,none⟩) x.length G],rfl,YKh (c:=([]++x.map (Value.int .i64):List Value).toArray++Builtin.zeroCells (Value.int .i64 0).cells (G - x.length)) (el:=3) (fr:=(0,0)) ?_ hg (by omega) (hfr _) ?_⟩,by simp,
    fun k hkk=> by rw [YNu] at hkk; subst hkk; exact ⟨by show w.heap.size+1 < ((w.heap.push _).push _).size; simp,fun hf=> by have:=hz _ hf; omega,.inr (Nat.le_succ _)⟩⟩
   ·show ((w.heap.push _).push _)[w.heap.size+1]? =_
    rw [Array.getElem?_push,Yku (by simp)]
   ·refine YE4 (YVu _) fun j hj=> ?_
    rw [Y2v,Array.getElem?_append_left (by simp; omega),List.getElem?_toArray,YIu]
 ·exact empty a 0 rfl
theorem p211 (x:List UInt8) (y:Int×Bool) (h:Yy4 x=some y):YS E 211 x y:=Yqt x y h
theorem p69 (x:List D87×(Int×Int)) (y:List D87) (h:YN3 x=some y):YS E 69 x y:=Ymt x y h
theorem p70 (x y:List Int) (h:YM3 x=some y):YS E 70 x y:=Yjt x y h
end Go.Abs
namespace Go.Abs
open Go.Proofs
theorem p126 (x:List UInt8×Int) (y:Int) (h:YB2 x=some y):YS E 126 x y:=Ynt (E:=E) (fun s n w=> Tryz.strings_IndexByte s n w) x y h
theorem p213 (x:List UInt8×List UInt8) (y:Int) (h:Yl2 x=some y):YS E 213 x y:=Y5i (E:=E) 0 (by exact List.mem_cons_self ..) (fun s t m w h1 h2=> Tryz.stringslite_Index s t m w h1 h2) x y h
theorem p214 (x:List UInt8×List UInt8) (y:Int) (h:Yl2 x=some y):YS E 214 x y:=Y5i (E:=E) 0 (by exact List.mem_cons_self ..) (fun s t m w h1 h2=> Tryz.strings_Index s t m w h1 h2) x y h
theorem p137 (x:List (List UInt8)×List UInt8) (y:List UInt8) (h:Yx4 x=some y):YS E 137 x y:=Ypt (E:=E) (fun a n s w=> Tryz.strings_Join_none a n s w) (fun bk o n xs sep w h1 h2 h3 h4 h5=> Tryz.strings_Join bk o n xs sep w h1 h2 h3 h4 h5) x y h
theorem Y7g:YX3=(List.range 256).map fun c=> (Lib.firstT c:Int):=by decide+kernel
theorem YQd:YW3=(List.range 16).map fun c=> ((Lib.accLo c:Int),(Lib.accHi c:Int)):=by decide+kernel
theorem p215 (x:List UInt8) (y:Int×Int) (h:Yv4 x=some y):YS E 215 x y:=Ylt (E:=E) 2 3 (by exact .head _) (by exact .tail _ (.head _)) Y7g YQd (fun s w h1 h2=> Tryz.utf8_DecodeLastRuneInString s w h1 h2) x y h
theorem p238 (x:List UInt8) (y:Int×Int) (h:Yk5 x=some y):YS E 238 x y:=Ykt (E:=E) 2 3 (by exact .head _) (by exact .tail _ (.head _)) Y7g YQd (fun s w h1=> Tryz.utf8_DecodeRuneInString s w h1) x y h
theorem Yns (f:FuncId) (h:(E.prim f).isSome=true):f∈[126,213,214,215,137,238,277,211,69,70]:=by
 have:=Ysr (f:=f) (d:=noFn) fnTab rfl h
 exact (show ∀ x∈fnTab,x.2.2.isSome=true->x.1∈[126,213,214,215,137,238,277,211,69,70] from by
  have:fnTab.all (fun x=> !x.2.2.isSome||[126,213,214,215,137,238,277,211,69,70].any (Nat.beq x.1))=true:=by kernel_rfl
  intro x hx hs
  have:=Y3v.1 this x hx
  rw [hs] at this
  simpa [Nat.beq_eq] using this) _ this.1 this.2
theorem Yos (f:FuncId) (g:(E.sig f).arg.den->Option (E.sig f).Out) (x:(E.sig f).arg.den) (y:(E.sig f).Out) (hf:E.prim f=some g) (h:g x=some y):YS E f x y:=by
 have:=Yns f (by rw [hf]; rfl)
 simp only [Yuu,List.not_mem_nil,or_false] at this
 rcases this with rfl | rfl | rfl | rfl | rfl | rfl | rfl | rfl | rfl | rfl
 ·obtain rfl:YB2=g:=Option.some.inj hf
  exact p126 x y h
 ·obtain rfl:Yl2=g:=Option.some.inj hf
  exact p213 x y h
 ·obtain rfl:Yl2=g:=Option.some.inj hf
  exact p214 x y h
 ·obtain rfl:Yv4=g:=Option.some.inj hf
  exact p215 x y h
 ·obtain rfl:Yx4=g:=Option.some.inj hf
  exact p137 x y h
 ·obtain rfl:Yk5=g:=Option.some.inj hf
  exact p238 x y h
 ·obtain rfl:Yw4=g:=Option.some.inj hf
  exact p277 x y h
 ·obtain rfl:Yy4=g:=Option.some.inj hf
  exact p211 x y h
 ·obtain rfl:YN3=g:=Option.some.inj hf
  exact p69 x y h
 ·obtain rfl:YM3=g:=Option.some.inj hf
  exact p70 x y h
theorem Ytf {f:FuncId} {x:(E.sig f).arg.den} {y:(E.sig f).Out} (h:Call E f x=some y):YS E f x y:=Y7c E_ok Yos h
end Go.Abs
