/- Part L5 of the proof: see the last text of the claim. No condition of its own. -/
import Derived.Test.YtddagflhafkbnaaGreatDoorL4
set_option linter.all false
namespace Go.Abs
set_option autoImplicit false

def YP1 (s:List UInt8):Nat→Nat→Option Nat
  | 0,_=> none
  | n+1,k=> if 127 < bat s k then some k else YP1 s n (k+1)
def Yl1 (s:List UInt8):List UInt8×(Int×Int):=match YP1 s s.length 0 with
  | some k=> ([],(31,(k:Int)))
  | none=> decV s (Yq (s.take (Yp s s.length).toNat)).length s.length (Yp s s.length+1).toNat 0 128 72 (Yq (s.take (Yp s s.length).toNat))

theorem YDn (s:List UInt8) (hs:s.length≤1073741824) (f:Nat) (at':Nat) (hf:s.length≤at'+f) (hat:at'≤s.length):Zc6 s (at':Int) 0 0 128 72=Zb6 s (at':Int) 0 0 128 72 []:=by
  rw [YDi,Y16]
  rfl
theorem YOe (s:List UInt8) (hs:s.length≤1073741824):∀ (n k:Nat),k+n=s.length→(Z86 s (s.length:Int) (k:Int)=some (match YP1 s n k with
    | some k=> ([],(31,(k:Int)))
    | none=> decV s (Yq (s.take (Yp s s.length).toNat)).length s.length (Yp s s.length+1).toNat 0 128 72 (Yq (s.take (Yp s s.length).toNat))))
  | 0,k,h=> by
    have hk:k=s.length:=by omega
    subst hk
    have hl:=Yj7 s s.length
    rw [YNb,Yc,Yir (YJr _),Ykr,YZk s hs,Ylr,w64 (x:=Yp s s.length+1) (by omega) (by omega)]
    unfold YP1
    dsimp only
    by_cases c:Yp s s.length+1 > 0
    · have hn:((Yp s s.length).toNat:Int)=Yp s s.length:=Int.toNat_of_nonneg (by omega)
      have hsl:(Yq (s.take (Yp s s.length).toNat)).length≤(Yp s s.length).toNat:=by
        have:=Yo3 (s.take (Yp s s.length).toNat)
        rw [YBr] at this; omega
      rw [Yhr c,Yjr,w64 (by omega) (by omega),show Yp s s.length+1 - 1=(((Yp s s.length).toNat:Nat):Int) from by omega,show Yi none (some (((Yp s s.length).toNat:Nat):Int)) s.length=true from by simp [Yi]; omega,Yjr,
        show Yl none (some (((Yp s s.length).toNat:Nat):Int)) s=s.take (Yp s s.length).toNat from (by show List.take (Int.toNat (((Yp s s.length).toNat:Nat):Int)) s=_; rw [Ypr]),show decide ((s.take (Yp s s.length).toNat).length≤lim)=true from Yhr (by rw [YBr]; simp only [lim]; omega),Yjr,YRg,Yni]
      rw [show Yp s s.length+1=(((Yp s s.length+1).toNat:Nat):Int) from by omega]
      have:=YNe s (Yq (s.take (Yp s s.length).toNat)).length hs s.length (Yp s s.length+1).toNat 0 128 72 (Yq (s.take (Yp s s.length).toNat)) (by omega) (by omega) (by omega) (by omega) (by omega) (by omega) (by omega) (by omega)
      rw [this]
      rw [show (((Yp s s.length+1).toNat:Nat):Int).toNat=(Yp s s.length+1).toNat from by omega]
    · have he:Yp s s.length=-1:=by omega
      rw [Yir c,Ykr,Yui,he]
      have h5:=YDn s hs s.length 0 (by omega) (by omega)
      have h4:=YNe s 0 hs s.length 0 0 128 72 [] (by omega) (by omega) (by omega) (by omega) (by omega) (by omega) (by omega) (by simp)
      have hz:((0:Nat):Int)=0:=rfl
      rw [hz] at h5 h4
      rw [show (-1:Int)+1=0 from rfl,hz,h5,h4]
      rfl
  | n+1,k,h=> by
    have hk:k < s.length:=by omega
    have hw:IntKind.i64.wrap ((k:Int)+1)=((k+1:Nat):Int):=by rw [w64 (by omega) (by omega)]; omega
    rw [YNb,Yc,Yhr hk,Yjr,Yj,Yhr hk,Yjr,Ypr,show (((s.getD k 0).toNat:Nat):Int)=bat s k from rfl,hw]
    unfold YP1
    by_cases c:127 < bat s k
    · rw [show decide (bat s k > 127)=true from Yhr c,Yjr,Ynr c]
    · rw [show decide (bat s k > 127)=false from Yir c,Ykr,Ymr c]
      exact YOe s hs n (k+1) (by omega)
theorem YKd (s:List UInt8) (hs:s.length≤1073741824):Yj6 s=some (Yl1 s):=by
  rw [Ysl,Yfi]
  exact YOe s hs s.length 0 (by omega)
def YQ (s:List UInt8):List UInt8×(Int×Int):=if 65536 < s.length then ([],(5,0)) else Yl1 s
theorem Ykl (s:List UInt8) (hs:s.length≤1073741824):YP8 s=some (YQ s):=by
  rw [Yjl,Yti]
  unfold YQ
  by_cases c:65536 < s.length
  · rw [show decide ((s.length:Int) > 65536)=true from Yhr (by omega),Yjr,Ynr c]
  · rw [show decide ((s.length:Int) > 65536)=false from Yir (by omega),Ykr,Ymr c,YKd s hs]; rfl

def azv (n:Int):Int:=(((az36.getD n.toNat 0).toNat:Nat):Int)
def layV (bias:Int):Nat→Int→Int→List Int
  | 0,_,_=> []
  | f+1,q,k=> if q < thr k bias then [azv q] else azv (thr k bias+(q - thr k bias) % (36 - thr k bias))::layV bias f ((q - thr k bias) / (36 - thr k bias)) (k+36)
theorem Yk7 (bias:Int):∀ (f:Nat) (q k:Int),(layV bias f q k).length≤f
  | 0,_,_=> by simp [layV]
  | f+1,q,k=> by
    unfold layV
    split
    · simp
    · simp only [Yqr]; have:=Yk7 bias f ((q - thr k bias) / (36 - thr k bias)) (k+36); omega
theorem in36 (n:Int) (h0:0≤n) (h1:n < 36):Ya n az36.length=true:=by
  unfold Ya; rw [Yhr h0,Yhr (by simp [az36]; omega)]; rfl
def YM4:Nat→Int
  | 0=> 0
  | n+1=> 10*YM4 n+9
theorem YQo (bias:Int) (hb:0≤bias∧bias≤4096) (f:Nat):∀ (q k:Int) (r:List Int),0≤q→q≤YM4 f→q≤1099511627776→0≤k→k≤1000000 - 36*(f:Int)→r.length+f≤4294967000→
    Zk6 q bias k r=some (r++layV bias (f+1) q k):=by
  induction f with
  | zero=>
    intro q k r h0 h1 _ hk0 hk1 hr
    have ht:=Yt3 k bias
    have h1:q≤0:=h1
    rw [Yfc,YS8 k bias ⟨hk0,by omega⟩ hb,Ylr]
    unfold layV
    rw [Yhr (by omega:q < thr k bias),Yjr,Ynr (by omega)]
    rw [show ([(97:UInt8),(98:UInt8),(99:UInt8),(100:UInt8),(101:UInt8),(102:UInt8),(103:UInt8),(104:UInt8),(105:UInt8),(106:UInt8),(107:UInt8),(108:UInt8),(109:UInt8),(110:UInt8),(111:UInt8),(112:UInt8),(113:UInt8),(114:UInt8),(115:UInt8),(116:UInt8),(117:UInt8),(118:UInt8),(119:UInt8),(120:UInt8),(121:UInt8),(122:UInt8),(48:UInt8),(49:UInt8),(50:UInt8),(51:UInt8),(52:UInt8),(53:UInt8),(54:UInt8),(55:UInt8),(56:UInt8),(57:UInt8)]:List UInt8)=az36 from rfl,in36 q h0 (by omega),Yjr]
    rw [show decide (r.length+[(((az36.getD q.toNat 0).toNat:Nat):Int)].length≤lim)=true from Yhr (by simp [lim]; omega),Yjr]; rfl
  | succ f ih=>
    intro q k r h0 h1 hb1 hk0 hk1 hr
    have ht:=Yt3 k bias
    have h1:q≤10*YM4 f+9:=h1
    rw [Yfc,YS8 k bias ⟨hk0,by omega⟩ hb,Ylr]
    rw [show ([(97:UInt8),(98:UInt8),(99:UInt8),(100:UInt8),(101:UInt8),(102:UInt8),(103:UInt8),(104:UInt8),(105:UInt8),(106:UInt8),(107:UInt8),(108:UInt8),(109:UInt8),(110:UInt8),(111:UInt8),(112:UInt8),(113:UInt8),(114:UInt8),(115:UInt8),(116:UInt8),(117:UInt8),(118:UInt8),(119:UInt8),(120:UInt8),(121:UInt8),(122:UInt8),(48:UInt8),(49:UInt8),(50:UInt8),(51:UInt8),(52:UInt8),(53:UInt8),(54:UInt8),(55:UInt8),(56:UInt8),(57:UInt8)]:List UInt8)=az36 from rfl]
    rw [layV]
    generalize thr k bias=t at ht ⊢
    by_cases c:q < t
    · rw [Yhr c,Yjr,Ynr c,in36 q h0 (by omega),Yjr,show decide (r.length+[(((az36.getD q.toNat 0).toNat:Nat):Int)].length≤lim)=true from Yhr (by simp [lim]; omega),Yjr]; rfl
    · have m0:0≤(q - t) % (36 - t):=Int.emod_nonneg _ (by omega)
      have m1:(q - t) % (36 - t) < 36 - t:=Int.emod_lt_of_pos _ (by omega)
      have d0:0≤(q - t) / (36 - t):=Int.ediv_nonneg (by omega) (by omega)
      have d1:(q - t) / (36 - t)≤(q - t) / 10:=by
        apply Int.le_ediv_of_mul_le (by omega)
        have:=Int.ediv_mul_le (q - t) (b:=36 - t) (by omega)
        have h2:(q - t) / (36 - t)*10≤(q - t) / (36 - t)*(36 - t):=Int.mul_le_mul_of_nonneg_left (by omega) d0
        omega
      rw [Yir c,Ykr,Ymr c,w64 (x:=36 - t) (by omega) (by omega),show (36 - t !=0)=true from bne_iff_ne.2 (by omega),Yjr,w64 (x:=q - t) (by omega) (by omega),Int.tmod_eq_emod_of_nonneg (by omega),YPr (by omega),
        w64 (x:=t+(q - t) % (36 - t)) (by omega) (by omega),w64 (x:=(q - t) / (36 - t)) (by omega) (by omega),w64 (x:=k+36) (by omega) (by omega),in36 _ (by omega) (by omega),Yjr,
        show decide (r.length+[(((az36.getD (t+(q - t) % (36 - t)).toNat 0).toNat:Nat):Int)].length≤lim)=true from Yhr (by simp [lim]; omega),Yjr,Yjr]
      rw [ih _ _ _ d0 (by omega) (by omega) (by omega) (by omega) (by simp; omega),Ysr]
      rfl
theorem YJf:1099511627776≤YM4 13:=by decide
def YQ2 (q bias:Int):List Int:=layV bias 14 q 36
theorem Yul (r:List Int) (q bias:Int) (h0:0≤q) (h1:q≤1099511627776) (hb:0≤bias∧bias≤4096) (hr:r.length≤4294966000):YR8 (r,q,bias)=some (r++YQ2 q bias):=by
  have:=YJf
  rw [Ytl,Y1j]
  exact YQo bias hb 13 q 36 r h0 (by omega) h1 (by omega) (by omega) (by omega)
end Go.Abs
namespace Go.Abs
set_option autoImplicit false

def YJ (n:Int):Int→List Int→Int
  | m,[]=> m
  | m,r::l=> YJ n (if n≤r∧r < m then r else m) l
structure EncS where
  told:Nat
  bias:Int
  delta:Int
  out:List Int
def YL (n:Int) (plain:Nat):List Int→EncS→EncS
  | [],x=> x
  | r::l,x=>
    if r=n then YL n plain l ⟨x.told+1,Yi1 x.delta ((x.told+1:Nat):Int) (((x.told:Nat):Int)==((plain:Nat):Int)),0,x.out++YQ2 x.delta x.bias⟩
    else if r < n then YL n plain l ⟨x.told,x.bias,x.delta+1,x.out⟩
    else YL n plain l x
def Yo2 (l:List Int) (plain:Nat):Nat→Int→EncS→List Int
  | 0,_,x=> x.out
  | f+1,n,x=>
    if l.length≤x.told then x.out
    else Yo2 l plain f (YJ n 1114112 l+1) ⟨(YL (YJ n 1114112 l) plain l ⟨x.told,x.bias,x.delta+(YJ n 1114112 l - n)*((x.told+1:Nat):Int),x.out⟩).told,
      (YL (YJ n 1114112 l) plain l ⟨x.told,x.bias,x.delta+(YJ n 1114112 l - n)*((x.told+1:Nat):Int),x.out⟩).bias,
      (YL (YJ n 1114112 l) plain l ⟨x.told,x.bias,x.delta+(YJ n 1114112 l - n)*((x.told+1:Nat):Int),x.out⟩).delta+1,
      (YL (YJ n 1114112 l) plain l ⟨x.told,x.bias,x.delta+(YJ n 1114112 l - n)*((x.told+1:Nat):Int),x.out⟩).out⟩

theorem YH4 (n:Int) (plain:Nat):∀ (l:List Int) (x:EncS),(YL n plain l x).told=x.told+l.countP (fun r=> r==n)
  | [],x=> rfl
  | r::l,x=> by
    unfold YL
    by_cases c:r=n
    · rw [Ynr c,YH4 n plain l,List.countP_cons]
      have e:(r==n)=true:=beq_iff_eq.2 c
      simp only [e,if_true]; omega
    · have e:(r==n)=false:=Ytr.2 c
      rw [Ymr c]
      simp only [List.countP_cons,e]
      split
      · rw [YH4 n plain l]; rfl
      · rw [YH4 n plain l]; rfl
def Fine (x:EncS):Prop:=0≤x.delta∧(0≤x.bias∧x.bias≤4096)
theorem YG4 (n:Int) (plain:Nat):∀ (l:List Int) (x:EncS),Fine x→Fine (YL n plain l x)∧(YL n plain l x).delta≤x.delta+l.length∧((∃ r∈l,r=n)→(YL n plain l x).delta≤l.length)∧(YL n plain l x).out.length+14*x.told≤x.out.length+14*(YL n plain l x).told
  | [],x,h=> by
    refine ⟨h,?_,?_,?_⟩
    · simp [YL]
    · rintro ⟨r,hr,_⟩; cases hr
    · unfold YL; omega
  | r::l,x,h=> by
    unfold YL
    by_cases c:r=n
    · rw [Ynr c]
      have hb:=YD3 x.delta ((x.told+1:Nat):Int) (((x.told:Nat):Int)==((plain:Nat):Int)) h.1 (by omega)
      obtain ⟨h1,h2,h3,h4⟩:=YG4 n plain l ⟨x.told+1,Yi1 x.delta ((x.told+1:Nat):Int) (((x.told:Nat):Int)==((plain:Nat):Int)),0,x.out++YQ2 x.delta x.bias⟩ ⟨Int.le_refl _,hb⟩
      have hl:=Yk7 x.bias 14 x.delta 36
      have hd:=h.1
      refine ⟨h1,?_,fun _=> ?_,?_⟩
      · dsimp only at h2; simp only [Yqr]; omega
      · dsimp only at h2; simp only [Yqr]; omega
      · dsimp only at h4; rw [Yrr] at h4; unfold YQ2 at h4; unfold YQ2; omega
    · rw [Ymr c]
      by_cases d:r < n
      · rw [Ynr d]
        obtain ⟨h1,h2,h3,h4⟩:=YG4 n plain l ⟨x.told,x.bias,x.delta+1,x.out⟩ ⟨by have:=h.1; dsimp only; omega,h.2⟩
        refine ⟨h1,?_,fun ⟨y,hy,e⟩=> ?_,h4⟩
        · dsimp only at h2; simp only [Yqr]; omega
        · rcases Yxr.1 hy with rfl | hy
          · exact absurd e c
          · have:=h3 ⟨y,hy,e⟩; simp only [Yqr]; omega
      · rw [Ymr d]
        obtain ⟨h1,h2,h3,h4⟩:=YG4 n plain l x h
        refine ⟨h1,?_,fun ⟨y,hy,e⟩=> ?_,h4⟩
        · simp only [Yqr]; omega
        · rcases Yxr.1 hy with rfl | hy
          · exact absurd e c
          · have:=h3 ⟨y,hy,e⟩; simp only [Yqr]; omega

theorem Yo7 (n:Int):∀ (l:List Int) (m:Int),YJ n m l≤m∧(YJ n m l=m∨(YJ n m l∈l∧n≤YJ n m l))∧∀ r∈l,n≤r→YJ n m l≤r
  | [],m=> ⟨Int.le_refl _,.inl rfl,fun r hr=> by cases hr⟩
  | r::l,m=> by
    unfold YJ
    obtain ⟨h1,h2,h3⟩:=Yo7 n l (if n≤r∧r < m then r else m)
    by_cases c:n≤r∧r < m
    · rw [Ynr c] at h1 h2 h3 ⊢
      refine ⟨by omega,?_,fun y hy hn=> ?_⟩
      · rcases h2 with h2 | h2
        · rw [h2]; exact .inr ⟨by simp,c.1⟩
        · exact .inr ⟨List.mem_cons_of_mem _ h2.1,h2.2⟩
      · rcases Yxr.1 hy with rfl | hy
        · exact h1
        · exact h3 y hy hn
    · rw [Ymr c] at h1 h2 h3 ⊢
      refine ⟨h1,?_,fun y hy hn=> ?_⟩
      · rcases h2 with h2 | h2
        · exact .inl h2
        · exact .inr ⟨List.mem_cons_of_mem _ h2.1,h2.2⟩
      · rcases Yxr.1 hy with rfl | hy
        · omega
        · exact h3 y hy hn
theorem Yyn (l:List Int) (n m:Int) (hnm:n≤m) (h:∀ r∈l,n≤r→m≤r):l.countP (fun r=> decide (r < m+1))=l.countP (fun r=> decide (r < n))+l.countP (fun r=> r==m):=by
  induction l with
  | nil=> rfl
  | cons r l ih=>
    have ih:=ih (fun y hy=> h y (List.mem_cons_of_mem _ hy))
    have hr:=h r (by simp)
    simp only [List.countP_cons,ih]
    by_cases a:r < n
    · have e1:decide (r < m+1)=true:=Yhr (by omega)
      have e2:decide (r < n)=true:=Yhr a
      have e3:(r==m)=false:=Ytr.2 (by omega)
      simp only [e1,e2,e3,if_true,Bool.false_eq_true,if_false]; omega
    · have:=hr (by omega)
      have e2:decide (r < n)=false:=Yir a
      by_cases b:r=m
      · have e1:decide (r < m+1)=true:=Yhr (by omega)
        have e3:(r==m)=true:=beq_iff_eq.2 b
        simp only [e1,e2,e3,if_true,Bool.false_eq_true,if_false]; omega
      · have e1:decide (r < m+1)=false:=Yir (by omega)
        have e3:(r==m)=false:=Ytr.2 b
        simp only [e1,e2,e3,Bool.false_eq_true,if_false]; omega
theorem YFe (l:List Int) (n:Int) (h:l.countP (fun r=> decide (r < n)) < l.length):∃ r∈l,n≤r:=by
  induction l with
  | nil=> simp at h
  | cons r l ih=>
    by_cases a:r < n
    · rw [List.countP_cons,Ynr (by simpa using a),Yqr] at h
      obtain ⟨y,hy,e⟩:=ih (by omega)
      exact ⟨y,List.mem_cons_of_mem _ hy,e⟩
    · exact ⟨r,by simp,by omega⟩
theorem YX9 (l:List Int) (n:Int) (hl:∀ r∈l,r < 1114112) (h:l.countP (fun r=> decide (r < n)) < l.length):
    n≤YJ n 1114112 l∧YJ n 1114112 l < 1114112∧YJ n 1114112 l∈l∧l.countP (fun r=> decide (r < YJ n 1114112 l+1))=l.countP (fun r=> decide (r < n))+l.countP (fun r=> r==YJ n 1114112 l)∧1≤l.countP (fun r=> r==YJ n 1114112 l):=by
  obtain ⟨h1,h2,h3⟩:=Yo7 n l 1114112
  obtain ⟨y,hy,hn⟩:=YFe l n h
  have hm:=h3 y hy hn
  have hy':=hl y hy
  rcases h2 with h2 | ⟨h2,h4⟩
  · omega
  · refine ⟨h4,by omega,h2,Yyn l n _ h4 h3,?_⟩
    exact List.countP_pos_iff.2 ⟨_,h2,by simp⟩
end Go.Abs
namespace Go.Abs
set_option autoImplicit false

def Yt (l:List Int):List Int:=l.filter fun r=> decide (r < 128)
theorem Yp7 (s:List UInt8) (told plain:Nat) (n bias delta:Int) (l out:List Int) (hl:l.length≤1048576):∀ (k i:Nat) (m:Int),i+k=l.length→
    Zx5 s (told:Int) (plain:Int) n bias delta m (l.length:Int) (i:Int) l out=
      Zy5 s (told:Int) (plain:Int) (YJ n m (l.drop i)) bias (IntKind.i64.wrap (delta+(IntKind.i64.wrap ((IntKind.i64.wrap (IntKind.i32.wrap (YJ n m (l.drop i) - n)))*(IntKind.i64.wrap ((told:Int)+1)))))) (l.length:Int) 0 l out
  | 0,i,m,h=> by
    have:i=l.length:=by omega
    subst this
    rw [YMc,Yc,Yir (YJr _),Ykr,List.drop_length]; rfl
  | k+1,i,m,h=> by
    have hi:i < l.length:=by omega
    have hw:IntKind.i64.wrap ((i:Int)+1)=((i+1:Nat):Int):=by rw [w64 (by omega) (by omega)]; omega
    have hg:List.getD l (Int.toNat (i:Int)) (Ty.zero (.int .i32))=l[i]:=by
      rw [Ypr,Yyr,Yzr hi]; rfl
    rw [YMc,Yc,Yhr hi,Yjr,Yj,Yhr hi,Yjr,hg,hw,Yur hi,YJ]
    by_cases a:n≤l[i]
    · rw [show decide (l[i]≥n)=true from Yhr a,Yjr]
      by_cases b:l[i] < m
      · rw [Yhr b,Yjr,Ynr ⟨a,b⟩,Yp7 s told plain n bias delta l out hl k (i+1) _ (by omega)]
      · rw [Yir b,Ykr,Ymr (fun h=> b h.2),Yp7 s told plain n bias delta l out hl k (i+1) _ (by omega)]
    · rw [show decide (l[i]≥n)=false from Yir a,Ykr,Ymr (fun h=> a h.1),Yp7 s told plain n bias delta l out hl k (i+1) _ (by omega)]

theorem Ye7 (s:List UInt8) (plain:Nat) (n:Int) (l:List Int) (hl:l.length≤65536) (hn:0≤n∧n≤1114112):∀ (k i:Nat) (x:EncS),i+k=l.length→Fine x→x.delta+k≤1099511627776→x.told+k≤200000→x.out.length+14*k≤100000000→
    Zy5 s (x.told:Int) (plain:Int) n x.bias x.delta (l.length:Int) (i:Int) l x.out=
      Zw5 s ((YL n plain (l.drop i) x).told:Int) (plain:Int) (IntKind.i32.wrap (n+1)) (YL n plain (l.drop i) x).bias (IntKind.i64.wrap ((YL n plain (l.drop i) x).delta+1)) l (YL n plain (l.drop i) x).out
  | 0,i,x,h,_,_,_,_=> by
    have:i=l.length:=by omega
    subst this
    rw [YPc,Yc,Yir (YJr _),Ykr,List.drop_length]; rfl
  | k+1,i,x,h,hf,hd,ht,ho=> by
    have hi:i < l.length:=by omega
    have hw:IntKind.i64.wrap ((i:Int)+1)=((i+1:Nat):Int):=by rw [w64 (by omega) (by omega)]; omega
    have hg:List.getD l (Int.toNat (i:Int)) (Ty.zero (.int .i32))=l[i]:=by
      rw [Ypr,Yyr,Yzr hi]; rfl
    obtain ⟨hd0,hb⟩:=hf
    rw [YPc,Yc,Yhr hi,Yjr,Yj,Yhr hi,Yjr,hg,Yur hi,YL]
    by_cases a:l[i] < n
    · rw [Yhr a,Yjr,Ymr (by omega),Ynr a,w64 (x:=x.delta+1) (by omega) (by omega),YSc,show (l[i]==n)=false from Ytr.2 (by omega),Ykr,hw]
      exact Ye7 s plain n l hl hn k (i+1) ⟨x.told,x.bias,x.delta+1,x.out⟩ (by omega) ⟨by dsimp only; omega,hb⟩ (by dsimp only; omega) (by dsimp only; omega) (by dsimp only; omega)
    · rw [Yir a,Ykr,YSc]
      by_cases b:l[i]=n
      · have hlay:=Yk7 x.bias 14 x.delta 36
        have had:=YD3 x.delta ((x.told+1:Nat):Int) (((x.told:Nat):Int)==((plain:Nat):Int)) hd0 (by omega)
        have hw2:IntKind.i64.wrap ((x.told:Int)+1)=((x.told+1:Nat):Int):=by rw [w64 (by omega) (by omega)]; omega
        rw [show (l[i]==n)=true from beq_iff_eq.2 b,Yjr,Ynr b,Yul _ _ _ hd0 (by omega) hb (by omega),Ylr,hw2,YHd _ _ _ hd0 (by omega) (by omega) (by omega),Ylr,hw]
        exact Ye7 s plain n l hl hn k (i+1) ⟨x.told+1,Yi1 x.delta ((x.told+1:Nat):Int) (((x.told:Nat):Int)==((plain:Nat):Int)),0,x.out++YQ2 x.delta x.bias⟩ (by omega) ⟨Int.le_refl _,had⟩ (by dsimp only; omega) (by dsimp only; omega) (by dsimp only; rw [Yrr]; unfold YQ2; omega)
      · rw [show (l[i]==n)=false from Ytr.2 b,Ykr,Ymr b,Ymr a,hw]
        exact Ye7 s plain n l hl hn k (i+1) x (by omega) ⟨hd0,hb⟩ (by omega) (by omega) (by omega)

def Yz2 (out:List Int):List UInt8×Int:=if (Yl1 (Ym out)).2.1=32 then ([],32) else (Ym out,0)
theorem Yzp (s:List UInt8) (plain:Nat) (l:List Int) (hl:l.length≤65536) (hr:∀ r∈l,0≤r∧r < 1114112) (f:Nat):∀ (n:Int) (x:EncS),l.length≤x.told+f→x.told=l.countP (fun r=> decide (r < n))→Fine x→x.delta≤65537→x.out.length≤65537+14*x.told→0≤n→n≤1114112→
    Zw5 s (x.told:Int) (plain:Int) n x.bias x.delta l x.out=some (Yz2 (Yo2 l plain f n x)):=by
  have fin:∀ (n:Int) (x:EncS),l.length≤x.told→x.out.length≤65537+14*x.told→x.told≤65536→Zw5 s (x.told:Int) (plain:Int) n x.bias x.delta l x.out=some (Yz2 x.out):=by
    intro n x h ho ht
    have hso:(Ym x.out).length=x.out.length:=by unfold Ym; rw [List.length_map]
    rw [YGc,Yc,Yir (by omega),Ykr,YKd _ (by omega),Ylr]
    unfold Yz2
    by_cases c:(Yl1 (Ym x.out)).2.1=32
    · rw [show ((Yl1 (Ym x.out)).2.1==32)=true from beq_iff_eq.2 c,Yjr,Ynr c,c]
    · rw [show ((Yl1 (Ym x.out)).2.1==32)=false from Ytr.2 c,Ykr,Ymr c]
  have cle:∀ n:Int,l.countP (fun r=> decide (r < n))≤l.length:=fun n=> List.countP_le_length
  induction f with
  | zero=>
    intro n x h1 h2 _ _ ho _ _
    have:=cle n
    exact fin n x (by omega) ho (by omega)
  | succ f ih=>
    intro n x h1 h2 hf hd ho hn0 hn1
    have hc:=cle n
    unfold Yo2
    by_cases c:l.length≤x.told
    · rw [Ynr c]; exact fin n x c ho (by omega)
    · rw [Ymr c]
      obtain ⟨m1,m2,m3,m4,m5⟩:=YX9 l n (fun r h=> (hr r h).2) (by omega)
      have hml:=Yp7 s x.told plain n x.bias x.delta l x.out (by omega) l.length 0 1114112 (by omega)
      rw [List.drop_zero] at hml
      generalize YJ n 1114112 l=m at m1 m2 m3 m4 m5 hml ⊢
      have hp:=Y04 (a:=m - n) (b:=((x.told+1:Nat):Int)) (A:=1114112) (B:=65537) (by omega) (by omega) (by omega) (by omega)
      have hdx:=hf.1
      have hw2:IntKind.i64.wrap ((x.told:Int)+1)=((x.told+1:Nat):Int):=by rw [w64 (by omega) (by omega)]; omega
      rw [YGc,Yc,Yhr (by omega),Yjr]
      rw [show ((0:Nat):Int)=0 from rfl] at hml
      rw [hml,w32 (by omega) (by omega),w64 (x:=m - n) (by omega) (by omega),hw2,w64 (x:=(m - n)*((x.told+1:Nat):Int)) (by omega) (by omega),w64 (x:=x.delta+(m - n)*((x.told+1:Nat):Int)) (by omega) (by omega)]
      have hin:=Ye7 s plain m l hl ⟨by omega,by omega⟩ l.length 0 ⟨x.told,x.bias,x.delta+(m - n)*((x.told+1:Nat):Int),x.out⟩ (by omega) ⟨by dsimp only; omega,hf.2⟩ (by dsimp only; omega) (by dsimp only; omega) (by dsimp only; omega)
      rw [List.drop_zero,show ((0:Nat):Int)=0 from rfl] at hin
      obtain ⟨f1,f2,f3,f4⟩:=YG4 m plain l ⟨x.told,x.bias,x.delta+(m - n)*((x.told+1:Nat):Int),x.out⟩ ⟨by dsimp only; omega,hf.2⟩
      have f3:=f3 ⟨m,m3,rfl⟩
      have ft:=YH4 m plain l ⟨x.told,x.bias,x.delta+(m - n)*((x.told+1:Nat):Int),x.out⟩
      refine hin.trans ?_
      generalize YL m plain l ⟨x.told,x.bias,x.delta+(m - n)*((x.told+1:Nat):Int),x.out⟩=y at f1 f2 f3 f4 ft ⊢
      dsimp only at f4 ft
      have hd1:=f1.1
      have hcl:=cle (m+1)
      rw [w32 (by omega) (by omega),w64 (by omega) (by omega)]
      exact ih (m+1) ⟨y.told,y.bias,y.delta+1,y.out⟩ (by dsimp only; omega) (by dsimp only; omega) ⟨by dsimp only; omega,f1.2⟩ (by dsimp only; omega) (by dsimp only; omega) (by omega) (by omega)

theorem YNa (s:List UInt8) (l:List Int) (hl:l.length≤65536) (hr:∀ r∈l,0≤r∧r < 1114112):∀ (k i:Nat) (out:List Int),i+k=l.length→out.length≤i→
    Zu5 s (l.length:Int) (i:Int) l out=Zv5 s ((out++Yt (l.drop i)).length:Int) ((out++Yt (l.drop i)).length:Int) l (if (out++Yt (l.drop i)).length=0 then out++Yt (l.drop i) else (out++Yt (l.drop i))++[45])
  | 0,i,out,h,ho=> by
    have:i=l.length:=by omega
    subst this
    rw [YCc,Yc,Yir (YJr _),Ykr,List.drop_length]
    rw [show out++Yt []=out from by simp [Yt]]
    by_cases c:out.length=0
    · rw [show decide ((out.length:Int) > 0)=false from Yir (by omega),Ykr,Ynr c]
    · rw [show decide ((out.length:Int) > 0)=true from Yhr (by omega),Yjr,Ymr c,show decide (out.length+[(45:Int)].length≤lim)=true from Yhr (by simp [lim]; omega),Yjr]
  | k+1,i,out,h,ho=> by
    have hi:i < l.length:=by omega
    have hw:IntKind.i64.wrap ((i:Int)+1)=((i+1:Nat):Int):=by rw [w64 (by omega) (by omega)]; omega
    have hg:List.getD l (Int.toNat (i:Int)) (Ty.zero (.int .i32))=l[i]:=by
      rw [Ypr,Yyr,Yzr hi]; rfl
    have hx:=hr l[i] (List.getElem_mem hi)
    have hs:Yt (l.drop i)=if l[i] < 128 then l[i]::Yt (l.drop (i+1)) else Yt (l.drop (i+1)):=by
      unfold Yt
      rw [Yur hi,List.filter_cons]
      by_cases a:l[i] < 128
      · rw [Ynr (Yhr a),Ynr a]
      · rw [Ymr (by simpa using a),Ymr a]
    rw [YCc,Yc,Yhr hi,Yjr,Yj,Yhr hi,Yjr,hg,hw,hs]
    by_cases a:l[i] < 128
    · rw [Yhr a,Yjr,Ynr a,w8 hx.1 (by omega),show decide (out.length+[l[i]].length≤lim)=true from Yhr (by simp [lim]; omega),Yjr,YNa s l hl hr k (i+1) _ (by omega) (by simp; omega),Ysr]
      rfl
    · rw [Yir a,Ykr,Ymr a,YNa s l hl hr k (i+1) _ (by omega) (by omega)]

def YO1 (l:List Int):List Int:=Yo2 l (Yt l).length l.length 128 ⟨(Yt l).length,72,0,if (Yt l).length=0 then Yt l else Yt l++[45]⟩
def Yb1 (s:List UInt8):List UInt8×Int:=if (YJ1 s).1=false then ([],21) else if 65536 < s.length then ([],5) else Yz2 (YO1 (Yq s))
theorem Yq2 {r:Int} (h:scal r=true):0≤r∧r < 1114112:=by
  have:=of_decide_eq_true h; omega
theorem YI5 (s:List UInt8):∀ r∈Yq s,scal r=true:=by
  have:∀ (n k:Nat),∀ x∈pcs s n k,scal x.2.1=true:=by
    intro n
    induction n with
    | zero=> intro k x h; cases h
    | succ n ih=>
      intro k x h
      unfold pcs at h
      split at h
      · rcases Yxr.1 h with rfl | h
        · dsimp only; exact YIa s k
        · exact ih _ x h
      · cases h
  intro r hr
  obtain ⟨x,hx,rfl⟩:=List.mem_map.1 hr
  exact this _ _ x hx
theorem Y35 (l:List Int):(Yt l).length=l.countP (fun r=> decide (r < 128)):=by
  unfold Yt; rw [List.countP_eq_length_filter]
theorem Yml (s:List UInt8):YQ8 s=some (Yb1 s):=by
  rw [Yll,YJj,Yse,Ylr]
  unfold Yb1
  cases hv:(YJ1 s).1 with
  | false=> rw [YIr,Yjr,Ynr rfl]
  | true=>
    rw [YHr,Ykr,Ymr (by simp)]
    by_cases c:65536 < s.length
    · rw [show decide ((s.length:Int) > 65536)=true from Yhr (by omega),Yjr,Ynr c]
    · rw [show decide ((s.length:Int) > 65536)=false from Yir (by omega),Ykr,Ymr c,show decide (s.length≤lim)=true from Yhr (by simp only [lim]; omega),Yjr,YRg]
      have hl:=Yo3 s
      have hr:∀ r∈Yq s,0≤r∧r < 1114112:=fun r h=> Yq2 (YI5 s r h)
      generalize Yq s=l at hl hr ⊢
      have h1:=YNa s l (by omega) hr l.length 0 [] (by omega) (by simp)
      rw [List.drop_zero,YLr,show ((0:Nat):Int)=0 from rfl] at h1
      have hsl:(Yt l).length≤l.length:=by rw [Y35]; exact List.countP_le_length
      rw [h1,YQj]
      exact Yzp s (Yt l).length l (by omega) hr l.length 128 ⟨(Yt l).length,72,0,if (Yt l).length=0 then Yt l else Yt l++[45]⟩ (by dsimp only; omega) (Y35 l) ⟨by dsimp only; omega,by dsimp only; omega⟩ (by dsimp only; omega) (by dsimp only; split; omega; rw [Yrr]; simp only [Yqr,Yvr]; omega) (by omega) (by omega)
end Go.Abs
namespace Go.Abs
set_option autoImplicit false

theorem Ym2 (b:UInt8):UInt8.ofNat (Y7 b).toNat=b:=by
  unfold Y7; rw [Ypr]; exact UInt8.ofNat_toNat
theorem YD1 {x:Int} (h0:0≤x) (h1:x≤255):Y7 (UInt8.ofNat x.toNat)=x:=by
  unfold Y7
  have e:(UInt8.ofNat x.toNat).toNat=x.toNat:=by rw [UInt8.toNat_ofNat']; omega
  rw [e]; omega
theorem YH2 {a b:UInt8} (h:Y7 a=Y7 b):a=b:=by
  rw [←Ym2 a,h,Ym2]

def rbs (r:Int):List UInt8:=Ym (Yv r)
theorem YQp (r:Int):(rbs r).length=(Yv r).length:=by unfold rbs Ym; rw [List.length_map]
theorem YG7 (r:Int):1≤(rbs r).length∧(rbs r).length≤4:=by rw [YQp]; exact YF3 r

theorem Yeq (s:List UInt8) (k:Nat) (r:Int) (h:r < 128) (b0:bat s k=r):Yk s k=(r,(1,false)):=by
  unfold Yk
  rw [Ynr (show ut1 s k=true from Yhr (by omega)),b0]
theorem YY9 {s:List UInt8} {k:Nat} (h:128≤bat s k):¬ut1 s k=true:=fun e=> by
  have:=of_decide_eq_true e; omega
theorem Yfq (s:List UInt8) (k:Nat) (r:Int) (h0:128≤r) (h1:r < 2048) (hk:k+1 < s.length) (b0:bat s k=192+r / 64) (b1:bat s (k+1)=128+r % 64):Yk s k=(r,(2,false)):=by
  have hc:c2 s k=r:=by unfold c2; rw [b0,b1]; omega
  unfold Yk
  rw [Ymr (YY9 (by omega)),Ynr (show ut2 s k=true from Yhr (by rw [hc,b0,b1]; omega)),hc]
theorem YUf {s:List UInt8} {k:Nat} (h:224≤bat s k):¬ut2 s k=true:=fun e=> by
  have:=of_decide_eq_true e; omega
theorem Ydp {s:List UInt8} {k:Nat} (h:240≤bat s k):¬ut3 s k=true:=fun e=> by
  unfold ut3 at e
  rw [Yor] at e
  have:=of_decide_eq_true e.1; omega
theorem Ygq (s:List UInt8) (k:Nat) (r:Int) (hs:scal r=true) (h0:2048≤r) (h1:r < 65536) (hk:k+2 < s.length) (b0:bat s k=224+r / 4096) (b1:bat s (k+1)=128+r / 64 % 64) (b2:bat s (k+2)=128+r % 64):Yk s k=(r,(3,false)):=by
  have hc:c3 s k=r:=by unfold c3; rw [b0,b1,b2]; omega
  unfold Yk
  rw [Ymr (YY9 (by omega)),Ymr (YUf (by omega)),Ynr (show ut3 s k=true from by unfold ut3; rw [hc,hs,Bool.and_true]; exact Yhr (by rw [b0,b1,b2]; omega)),hc]
theorem Yhq (s:List UInt8) (k:Nat) (r:Int) (hs:scal r=true) (h0:65536≤r) (h1:r < 1114112) (hk:k+3 < s.length) (b0:bat s k=240+r / 262144) (b1:bat s (k+1)=128+r / 4096 % 64) (b2:bat s (k+2)=128+r / 64 % 64) (b3:bat s (k+3)=128+r % 64):Yk s k=(r,(4,false)):=by
  have hc:c4 s k=r:=by unfold c4; rw [b0,b1,b2,b3]; omega
  unfold Yk
  rw [Ymr (YY9 (by omega)),Ymr (YUf (by omega)),Ymr (Ydp (by omega)),Ynr (show ut4 s k=true from by unfold ut4; rw [hc,hs,Bool.and_true]; exact Yhr (by rw [b0,b1,b2,b3]; omega)),hc]

theorem rbs1 {r:Int} (a:r < 128):rbs r=[UInt8.ofNat r.toNat]:=by unfold rbs Yv; rw [Ynr a]; rfl
theorem rbs2 {r:Int} (a:¬r < 128) (b:r < 2048):rbs r=[UInt8.ofNat (192+r / 64).toNat,UInt8.ofNat (128+r % 64).toNat]:=by unfold rbs Yv; rw [Ymr a,Ynr b]; rfl
theorem rbs3 {r:Int} (a:¬r < 128) (b:¬r < 2048) (c:r < 65536):rbs r=[UInt8.ofNat (224+r / 4096).toNat,UInt8.ofNat (128+r / 64 % 64).toNat,UInt8.ofNat (128+r % 64).toNat]:=by unfold rbs Yv; rw [Ymr a,Ymr b,Ynr c]; rfl
theorem rbs4 {r:Int} (a:¬r < 128) (b:¬r < 2048) (c:¬r < 65536):rbs r=[UInt8.ofNat (240+r / 262144).toNat,UInt8.ofNat (128+r / 4096 % 64).toNat,UInt8.ofNat (128+r / 64 % 64).toNat,UInt8.ofNat (128+r % 64).toNat]:=by unfold rbs Yv; rw [Ymr a,Ymr b,Ymr c]; rfl

theorem Yiq (r:Int) (h:scal r=true) (t:List UInt8):Yk (rbs r++t) 0=(r,((((rbs r).length:Nat):Int),false)):=by
  have hr:=Yq2 h
  by_cases a:r < 128
  · rw [rbs1 a]
    exact Yeq _ 0 r a (YD1 (by omega) (by omega))
  by_cases b:r < 2048
  · rw [rbs2 a b]
    exact Yfq _ 0 r (by omega) b (by simp) (YD1 (by omega) (by omega)) (YD1 (by omega) (by omega))
  by_cases c:r < 65536
  · rw [rbs3 a b c]
    exact Ygq _ 0 r h (by omega) c (by simp) (YD1 (by omega) (by omega)) (YD1 (by omega) (by omega)) (YD1 (by omega) (by omega))
  · rw [rbs4 a b c]
    exact Yhq _ 0 r h (by omega) (by omega) (by simp) (YD1 (by omega) (by omega)) (YD1 (by omega) (by omega)) (YD1 (by omega) (by omega)) (YD1 (by omega) (by omega))
theorem YMg (s:List UInt8) (k:Nat) (r:Int) (h:scal r=true) (t:List UInt8) (hk:k≤s.length) (e:s.drop k=rbs r++t):Yk s k=(r,((((rbs r).length:Nat):Int),false)):=by
  rw [←YLg s k hk,e]; exact Yiq r h t

theorem YKn (s:List UInt8) (k:Nat) (hk:k < s.length) (h:(Yk s k).2.2=false):s.drop k=rbs (Yk s k).1++s.drop (k+wd s k):=by
  have hb0:=Yu s k
  have hb1:=Yu s (k+1)
  have hb2:=Yu s (k+2)
  have hb3:=Yu s (k+3)
  obtain ⟨d0,e0⟩:=Ys1 s k hk
  have f0:s[k]=UInt8.ofNat (bat s k).toNat:=by rw [←e0,Ym2]
  unfold wd
  by_cases q1:ut1 s k=true
  · have hr:Yk s k=(bat s k,(1,false)):=by unfold Yk; rw [Ynr q1]
    have:=of_decide_eq_true q1
    rw [hr,rbs1 this,d0,f0]; rfl
  by_cases q2:ut2 s k=true
  · have hr:Yk s k=(c2 s k,(2,false)):=by unfold Yk; rw [Ymr q1,Ynr q2]
    obtain ⟨g1,g2,g3,g4⟩:=of_decide_eq_true q2
    obtain ⟨d1,e1⟩:=Ys1 s (k+1) g1
    have f1:s[k+1]=UInt8.ofNat (bat s (k+1)).toNat:=by rw [←e1,Ym2]
    have hc:c2 s k < 2048:=by unfold c2; omega
    have h1:192+c2 s k / 64=bat s k:=by unfold c2; omega
    have h2:128+c2 s k % 64=bat s (k+1):=by unfold c2; omega
    rw [hr,rbs2 (by omega) hc,h1,h2,d0,d1,f0,f1]; rfl
  by_cases q3:ut3 s k=true
  · have hr:Yk s k=(c3 s k,(3,false)):=by unfold Yk; rw [Ymr q1,Ymr q2,Ynr q3]
    unfold ut3 at q3
    rw [Yor] at q3
    obtain ⟨g1,g2,g3,g4,g5⟩:=of_decide_eq_true q3.1
    obtain ⟨d1,e1⟩:=Ys1 s (k+1) (by omega)
    obtain ⟨d2,e2⟩:=Ys1 s (k+2) g1
    have f1:s[k+1]=UInt8.ofNat (bat s (k+1)).toNat:=by rw [←e1,Ym2]
    have f2:s[k+2]=UInt8.ofNat (bat s (k+2)).toNat:=by rw [←e2,Ym2]
    have hc:c3 s k < 65536:=by unfold c3; omega
    have h1:224+c3 s k / 4096=bat s k:=by unfold c3; omega
    have h2:128+c3 s k / 64 % 64=bat s (k+1):=by unfold c3; omega
    have h3:128+c3 s k % 64=bat s (k+2):=by unfold c3; omega
    rw [hr,rbs3 (by omega) (by omega) hc,h1,h2,h3,d0,d1,d2,f0,f1,f2]; rfl
  by_cases q4:ut4 s k=true
  · have hr:Yk s k=(c4 s k,(4,false)):=by unfold Yk; rw [Ymr q1,Ymr q2,Ymr q3,Ynr q4]
    unfold ut4 at q4
    rw [Yor] at q4
    obtain ⟨g1,g2,g3,g4,g5,g6⟩:=of_decide_eq_true q4.1
    obtain ⟨d1,e1⟩:=Ys1 s (k+1) (by omega)
    obtain ⟨d2,e2⟩:=Ys1 s (k+2) (by omega)
    obtain ⟨d3,e3⟩:=Ys1 s (k+3) g1
    have f1:s[k+1]=UInt8.ofNat (bat s (k+1)).toNat:=by rw [←e1,Ym2]
    have f2:s[k+2]=UInt8.ofNat (bat s (k+2)).toNat:=by rw [←e2,Ym2]
    have f3:s[k+3]=UInt8.ofNat (bat s (k+3)).toNat:=by rw [←e3,Ym2]
    have h1:240+c4 s k / 262144=bat s k:=by unfold c4; omega
    have h2:128+c4 s k / 4096 % 64=bat s (k+1):=by unfold c4; omega
    have h3:128+c4 s k / 64 % 64=bat s (k+2):=by unfold c4; omega
    have h4:128+c4 s k % 64=bat s (k+3):=by unfold c4; omega
    rw [hr,rbs4 (by omega) (by omega) (by omega),h1,h2,h3,h4,d0,d1,d2,d3,f0,f1,f2,f3]; rfl
  · exfalso
    have hr:Yk s k=(65533,(1,true)):=by unfold Yk; rw [Ymr q1,Ymr q2,Ymr q3,Ymr q4]
    rw [hr] at h; cases h
end Go.Abs
namespace Go.Abs
set_option autoImplicit false

def pvs (s:List UInt8) (n k:Nat):List Int:=(pcs s n k).map (·.2.1)
theorem Yr1 (r:Int) (l:List Int):Yb (r::l)=rbs r++Yb l:=by
  unfold Yb rbs Ym YI1; rw [List.flatMap_cons,List.map_append]
theorem YS1:Yb []=[]:=rfl
theorem Ys3:∀ a b:List Int,Yb (a++b)=Yb a++Yb b
  | [],b=> rfl
  | r::a,b=> by rw [List.cons_append,Yr1,Yr1,Ys3 a b,Ysr]
theorem YYa:∀ l:List Int,(Yb l).length≤4*l.length
  | []=> by simp [YS1]
  | r::l=> by
    have:=YYa l
    have:=YG7 r
    rw [Yr1,Yrr,Yqr]; omega
theorem Y2h:∀ l:List Int,l.length≤(Yb l).length
  | []=> by simp [YS1]
  | r::l=> by
    have:=Y2h l
    have:=YG7 r
    rw [Yr1,Yrr,Yqr]; omega
def YN (l:List Int):Prop:=∀ r∈l,scal r=true
theorem YP7 {r:Int} {l:List Int} (h:YN (r::l)):scal r=true∧YN l:=⟨h r (by simp),fun x hx=> h x (by simp [hx])⟩
theorem YO7 (s:List UInt8):YN (Yq s):=YI5 s

theorem Ywa:∀ (l:List Int) (s:List UInt8) (n k:Nat),YN l→s.length≤k+n→k≤s.length→s.drop k=Yb l→pvs s n k=l∧YV1 (pcs s n k)=none
  | [],s,n,k,hl,hn,hk,e=> by
    have:k=s.length:=by
      have:=congrArg List.length e
      rw [YCr,YS1,Yvr] at this; omega
    subst this
    unfold pvs
    cases n with
    | zero=> exact ⟨rfl,rfl⟩
    | succ n=> rw [pcs,Ymr (YJr _)]; exact ⟨rfl,rfl⟩
  | r::l,s,n,k,hl,hn,hk,e=> by
    obtain ⟨h1,h2⟩:=YP7 hl
    have hb:=YG7 r
    rw [Yr1] at e
    have hlen:=congrArg List.length e
    rw [YCr,Yrr] at hlen
    have hr:=YMg s k r h1 _ hk e
    have hw:wd s k=(rbs r).length:=by unfold wd; rw [hr]; simp
    have e2:s.drop (k+(rbs r).length)=Yb l:=by rw [←List.drop_drop,e,List.drop_left]
    cases n with
    | zero=> omega
    | succ n=>
      obtain ⟨i1,i2⟩:=Ywa l s n (k+(rbs r).length) h2 (by omega) (by omega) e2
      unfold pvs at i1 ⊢
      rw [pcs,Ynr (by omega),hw,hr,YEr,i1]
      exact ⟨rfl,i2⟩
theorem YQ7 (l:List Int) (h:YN l):Yq (Yb l)=l:=(Ywa l (Yb l) _ 0 h (by omega) (by omega) rfl).1
theorem Y2r (l:List Int) (h:YN l):(YJ1 (Yb l)).1=true:=by
  unfold YJ1 YY1
  rw [(Ywa l (Yb l) _ 0 h (by omega) (by omega) rfl).2]
theorem Y4h (s:List UInt8):∀ (n k:Nat),s.length≤k+n→k≤s.length→YV1 (pcs s n k)=none→Yb (pvs s n k)=s.drop k
  | 0,k,hn,hk,h=> by
    rw [List.drop_eq_nil_of_le (by omega)]; rfl
  | n+1,k,hn,hk,h=> by
    rw [pcs] at h
    unfold pvs
    rw [pcs]
    by_cases c:k < s.length
    · obtain ⟨w1,w2,w3,_⟩:=Y02 s k c
      have e1:s.length≤k+wd s k+n:=by clear h; omega
      rw [Ynr c] at h ⊢
      have key:∀ (x:Nat×(Int×(Int×Bool))) (l:List (Nat×(Int×(Int×Bool)))),YV1 (x::l)=none→x.2.2.2=false∧YV1 l=none:=by
        intro x l hx
        rw [YV1] at hx
        cases hb:x.2.2.2 with
        | false=> rw [hb] at hx; exact ⟨rfl,hx⟩
        | true=> rw [hb] at hx; cases hx
      obtain ⟨h2,h⟩:=key _ _ h
      dsimp only at h2
      have ih:=Y4h s n (k+wd s k) e1 w3 h
      have hd:=YKn s k c h2
      unfold pvs at ih
      rw [YEr]
      dsimp only
      generalize hA:s.drop (k+wd s k)=A at hd ih
      generalize (Yk s k).1=r at hd ⊢
      rw [hd,Yr1,ih]
    · rw [Ymr c,List.drop_eq_nil_of_le (by omega)]; rfl
theorem Y3h (s:List UInt8) (h:(YJ1 s).1=true):Yb (Yq s)=s:=by
  have:YV1 (pcs s s.length 0)=none:=by
    unfold YJ1 YY1 at h
    cases hf:YV1 (pcs s s.length 0) with
    | none=> rfl
    | some k=> rw [hf] at h; cases h
  exact Y4h s s.length 0 (by omega) (by omega) this

theorem Y1r (r:Int) (h:scal r=true):Utf8.valid r=true:=by
  have h:=of_decide_eq_true h
  unfold Utf8.valid
  simp only [Bool.or_eq_true,Yor,YAr]; omega
theorem ofN {x:Int} {n:Nat} (h:x=(n:Int)):UInt8.ofNat x.toNat=UInt8.ofNat n:=by rw [h,Ypr]
theorem YZe (r:Int) (h:scal r=true):Yt1 r=rbs r:=by
  have hr:=Yq2 h
  have hv:=Y1r r h
  unfold Yt1 Utf8.encode
  rw [Ynr hv]
  by_cases a:r.toNat < 128
  · rw [rbs1 (by omega),Ynr a]
  · rw [Ymr a]
    by_cases b:r.toNat < 2048
    · rw [rbs2 (by omega) (by omega),Ynr b,ofN (n:=192+r.toNat / 64) (by omega),ofN (n:=128+r.toNat % 64) (by omega)]
    · rw [Ymr b]
      by_cases c:r.toNat < 65536
      · rw [rbs3 (by omega) (by omega) (by omega),Ynr c,ofN (n:=224+r.toNat / 4096) (by omega),ofN (n:=128+r.toNat / 64 % 64) (by omega),ofN (n:=128+r.toNat % 64) (by omega)]
      · rw [Ymr c,rbs4 (by omega) (by omega) (by omega),ofN (n:=240+r.toNat / 262144) (by omega),ofN (n:=128+r.toNat / 4096 % 64) (by omega),ofN (n:=128+r.toNat / 64 % 64) (by omega),ofN (n:=128+r.toNat % 64) (by omega)]
theorem YV7:∀ l:List Int,YN l→YD2 l=Yb l
  | [],_=> rfl
  | r::l,h=> by
    obtain ⟨h1,h2⟩:=YP7 h
    rw [Yr1,←YV7 l h2,←YZe r h1]; rfl

theorem Y0p:(List.range 26).all (fun n=> decide (bits Go.BinOp.xor IntKind.u8 ((n:Int)+65) 32=(n:Int)+97))=true:=by kernel_rfl
theorem Yj2 (x:Int):lowI x=if 65≤x∧x≤90 then x+32 else x:=by
  unfold lowI
  by_cases h:65≤x∧x≤90
  · rw [Ynr h,Ynr h]
    have:=of_decide_eq_true (List.all_eq_true.1 Y0p (x - 65).toNat (List.mem_range.2 (by omega)))
    rw [show (((x - 65).toNat:Nat):Int)+65=x from by omega] at this
    rw [this]; omega
  · rw [Ymr h,Ymr h]
theorem YQf {x:Int} (h:128≤x):lowI x=x:=by rw [Yj2,Ymr (by omega)]
theorem Y2p {x:Int} (h:scal x=true):scal (lowI x)=true:=by
  have h:=of_decide_eq_true h
  rw [Yj2]; split <;> exact Yhr (by omega)
theorem Y1p {x:Int} (h:0≤x∧x≤255):0≤lowI x∧lowI x≤255:=by rw [Yj2]; split <;> omega
theorem YB8 (b:UInt8):Y7 (lowB b)=lowI (Y7 b):=by
  have:=Y1p (Yv2 b)
  exact YD1 this.1 this.2
def lowS (s:List UInt8):List UInt8:=s.map lowB
theorem Yl7 (s:List UInt8):(lowS s).length=s.length:=List.length_map ..
theorem Y3p (a b:List UInt8):lowS (a++b)=lowS a++lowS b:=List.map_append
theorem YR2 {x:Int} (h0:128≤x) (h1:x≤255):lowB (UInt8.ofNat x.toNat)=UInt8.ofNat x.toNat:=
  YH2 (by rw [YB8,YD1 (by omega) h1,YQf h0])
theorem Y6p (r:Int) (h:scal r=true):lowS (rbs r)=rbs (lowI r):=by
  have hr:=Yq2 h
  by_cases a:r < 128
  · have:lowI r < 128:=by rw [Yj2]; split <;> omega
    have h2:0≤lowI r:=by rw [Yj2]; split <;> omega
    rw [rbs1 a,rbs1 this]
    unfold lowS
    rw [YEr,List.map_nil]
    congr 1
    exact YH2 (by rw [YB8,YD1 hr.1 (by omega),YD1 h2 (by omega)])
  · rw [YQf (by omega)]
    by_cases b:r < 2048
    · rw [rbs2 a b]; unfold lowS
      rw [YEr,YEr,List.map_nil,YR2 (by omega) (by omega),YR2 (by omega) (by omega)]
    by_cases c:r < 65536
    · rw [rbs3 a b c]; unfold lowS
      rw [YEr,YEr,YEr,List.map_nil,YR2 (by omega) (by omega),YR2 (by omega) (by omega),YR2 (by omega) (by omega)]
    · rw [rbs4 a b c]; unfold lowS
      rw [YEr,YEr,YEr,YEr,List.map_nil,YR2 (by omega) (by omega),YR2 (by omega) (by omega),YR2 (by omega) (by omega),YR2 (by omega) (by omega)]
theorem YV9:∀ l:List Int,YN l→lowS (Yb l)=Yb (l.map lowI)
  | [],_=> rfl
  | r::l,h=> by
    obtain ⟨h1,h2⟩:=YP7 h
    rw [Yr1,Y3p,Y6p r h1,YV9 l h2,YEr,Yr1]
theorem YRf {l:List Int} (h:YN l):YN (l.map lowI):=by
  intro x hx
  obtain ⟨y,hy,rfl⟩:=List.mem_map.1 hx
  exact Y2p (h y hy)

theorem Y56 {s:List UInt8} (h:Yc1 s=true):∀ b∈s,Y7 b < 128:=by
  intro b hb
  unfold Yc1 at h
  rw [Bool.not_eq_true',List.any_eq_false] at h
  have:=h b hb
  simp only [YAr] at this; omega
theorem Yx8:∀ s:List UInt8,(∀ b∈s,Y7 b < 128)→Yb (s.map Y7)=s
  | [],_=> rfl
  | b::s,h=> by
    rw [YEr,Yr1,rbs1 (h b (by simp)),Ym2,Yx8 s (fun x hx=> h x (by simp [hx]))]; rfl
theorem Yw8 {s:List UInt8} (h:∀ b∈s,Y7 b < 128):YN (s.map Y7):=by
  intro x hx
  obtain ⟨b,hb,rfl⟩:=List.mem_map.1 hx
  have:=Yv2 b
  have:=h b hb
  exact Yhr (by omega)
theorem Y15 (s:List UInt8) (h:∀ b∈s,Y7 b < 128):Yq s=s.map Y7:=by
  have:=YQ7 (s.map Y7) (Yw8 h)
  rwa [Yx8 s h] at this
theorem Yhh (s:List UInt8) (h:∀ b∈s,Y7 b < 128):(YJ1 s).1=true:=by
  have:=Y2r (s.map Y7) (Yw8 h)
  rwa [Yx8 s h] at this
end Go.Abs
namespace Go.Abs
set_option autoImplicit false

def okI (c:Int):Prop:=0≤c∧c < 128∧c≠46∧¬(65≤c∧c≤90)
instance (c:Int):Decidable (okI c):=by unfold okI; infer_instance
theorem Yek:(List.range 36).all (fun n=> decide (okI (azv (n:Int))))=true:=by kernel_rfl
theorem Y8d (n:Int):okI (azv n):=by
  by_cases c:n.toNat < 36
  · have:=of_decide_eq_true (List.all_eq_true.1 Yek n.toNat (List.mem_range.2 c))
    unfold azv at this ⊢
    rwa [Ypr] at this
  · unfold azv
    rw [Yyr,List.getElem?_eq_none (by simp [az36]; omega)]
    decide
theorem YGf (bias:Int):∀ (f:Nat) (q k:Int),∀ c∈layV bias f q k,okI c
  | 0,_,_,c,h=> by cases h
  | f+1,q,k,c,h=> by
    unfold layV at h
    split at h
    · rw [YQr.1 h]; exact Y8d _
    · rcases Yxr.1 h with rfl | h
      · exact Y8d _
      · exact YGf bias f _ _ c h
theorem Yd7 (n:Int) (plain:Nat):∀ (l:List Int) (x:EncS),(∀ c∈x.out,okI c)→∀ c∈(YL n plain l x).out,okI c
  | [],x,h=> h
  | r::l,x,h=> by
    unfold YL
    split
    · refine Yd7 n plain l _ fun c hc=> ?_
      rcases YDr.1 hc with hc | hc
      · exact h c hc
      · exact YGf _ _ _ _ c hc
    · split
      · exact Yd7 n plain l _ h
      · exact Yd7 n plain l _ h
theorem Y2g (l:List Int) (plain:Nat):∀ (f:Nat) (n:Int) (x:EncS),(∀ c∈x.out,okI c)→∀ c∈Yo2 l plain f n x,okI c
  | 0,_,x,h=> h
  | f+1,n,x,h=> by
    unfold Yo2
    split
    · exact h
    · exact Y2g l plain f _ _ (Yd7 _ _ _ _ h)
theorem YNn (l:List Int) (h:∀ r∈l,r < 128→okI r):∀ c∈YO1 l,okI c:=by
  have hs:∀ c∈Yt l,okI c:=by
    intro c hc
    obtain ⟨h1,h2⟩:=List.mem_filter.1 hc
    exact h c h1 (of_decide_eq_true h2)
  unfold YO1
  apply Y2g
  intro c hc
  dsimp only at hc
  split at hc
  · exact hs c hc
  · rcases YDr.1 hc with hc | hc
    · exact hs c hc
    · rw [YQr.1 hc]; decide
theorem Yyp (plain:Nat) (l:List Int) (hl:l.length≤65536) (hr:∀ r∈l,0≤r∧r < 1114112) (f:Nat):∀ (n:Int) (x:EncS),x.told=l.countP (fun r=> decide (r < n))→Fine x→x.out.length≤65537+14*x.told→0≤n→n≤1114112→
    (Yo2 l plain f n x).length≤65537+14*l.length:=by
  have cle:∀ n:Int,l.countP (fun r=> decide (r < n))≤l.length:=fun n=> List.countP_le_length
  induction f with
  | zero=>
    intro n x h2 _ ho _ _
    have:=cle n
    show x.out.length≤_
    omega
  | succ f ih=>
    intro n x h2 hf ho hn0 hn1
    have hc:=cle n
    unfold Yo2
    by_cases c:l.length≤x.told
    · rw [Ynr c]; omega
    · rw [Ymr c]
      obtain ⟨m1,m2,m3,m4,m5⟩:=YX9 l n (fun r h=> (hr r h).2) (by omega)
      generalize YJ n 1114112 l=m at m1 m2 m3 m4 m5 ⊢
      have hp:=Y04 (a:=m - n) (b:=((x.told+1:Nat):Int)) (A:=1114112) (B:=65537) (by omega) (by omega) (by omega) (by omega)
      have hdx:=hf.1
      obtain ⟨f1,f2,f3,f4⟩:=YG4 m plain l ⟨x.told,x.bias,x.delta+(m - n)*((x.told+1:Nat):Int),x.out⟩ ⟨by dsimp only; omega,hf.2⟩
      have ft:=YH4 m plain l ⟨x.told,x.bias,x.delta+(m - n)*((x.told+1:Nat):Int),x.out⟩
      generalize YL m plain l ⟨x.told,x.bias,x.delta+(m - n)*((x.told+1:Nat):Int),x.out⟩=y at f1 f2 f3 f4 ft ⊢
      dsimp only at f4 ft
      have hd1:=f1.1
      exact ih (m+1) ⟨y.told,y.bias,y.delta+1,y.out⟩ (by dsimp only; omega) ⟨by dsimp only; omega,f1.2⟩ (by dsimp only; omega) (by omega) (by omega)
theorem YYe (l:List Int) (hl:l.length≤65536) (hr:∀ r∈l,0≤r∧r < 1114112):(YO1 l).length≤1048576:=by
  have hsl:(Yt l).length≤l.length:=by rw [Y35]; exact List.countP_le_length
  have:=Yyp (Yt l).length l hl hr l.length 128 ⟨(Yt l).length,72,0,if (Yt l).length=0 then Yt l else Yt l++[45]⟩ (Y35 l) ⟨by dsimp only; omega,by dsimp only; omega⟩ (by dsimp only; split; omega; rw [Yrr]; simp only [Yqr,Yvr]; omega) (by omega) (by omega)
  unfold YO1; omega
theorem YMn (out:List Int):((Yz2 out).2≠0∧(Yz2 out).1=[])∨Yz2 out=(Ym out,0):=by
  unfold Yz2; split
  · exact .inl ⟨by simp,rfl⟩
  · exact .inr rfl
theorem YV5 (s:List UInt8):((Yb1 s).2≠0∧(Yb1 s).1=[])∨(Yb1 s=(Ym (YO1 (Yq s)),0)∧(YJ1 s).1=true∧s.length≤65536):=by
  unfold Yb1
  split
  · exact .inl ⟨by simp,rfl⟩
  · rename_i hv
    split
    · exact .inl ⟨by simp,rfl⟩
    · rename_i hl
      rcases YMn (YO1 (Yq s)) with h | h
      · exact .inl h
      · exact .inr ⟨h,by simpa using hv,by omega⟩
theorem YLq {l:List Int} (h:∀ c∈l,okI c):∀ b∈Ym l,okI (Y7 b):=by
  intro b hb
  unfold Ym at hb
  obtain ⟨c,hc,rfl⟩:=List.mem_map.1 hb
  have:=h c hc
  rw [YD1 this.1 (by have:=this.2.1; omega)]; exact this
theorem YBh (s:List UInt8) (h:∀ r∈Yq s,r < 128→okI r):∀ b∈(Yb1 s).1,okI (Y7 b):=by
  rcases YV5 s with ⟨_,e⟩ | ⟨e,_⟩
  · rw [e]; intro b hb; cases hb
  · rw [e]; exact YLq (YNn _ h)
theorem Ya8 (s:List UInt8):(Yb1 s).1.length≤1048576:=by
  rcases YV5 s with ⟨_,e⟩ | ⟨e,_,hl⟩
  · rw [e]; simp
  · rw [e]
    have h1:=Yo3 s
    have:=YYe (Yq s) (by omega) (fun r h=> Yq2 (YI5 s r h))
    simp only [Ym,List.length_map]; exact this

def xn:List UInt8:=[120,110,45,45]
def Ys (s:List UInt8):List UInt8×Int:=if (Yb1 s).2≠0 then ([],(Yb1 s).2) else if Yc1 s=true then (s,0) else (xn++(Yb1 s).1,0)
theorem bne0 {x:Int}:(x !=0)=decide (x≠0):=by
  by_cases h:x=0
  · rw [h]; rfl
  · rw [Yhr h]; exact bne_iff_ne.2 h
theorem YFd (s:List UInt8):Yh6 s=some (Ys s):=by
  have hl:=Ya8 s
  rw [Ynl,Y4i,Yml,Ylr,bne0]
  unfold Ys
  by_cases a:(Yb1 s).2≠0
  · rw [Yhr a,Yjr,Ynr a]
  · rw [Yir a,Ykr,Ymr a,YJd,Ylr]
    cases Yc1 s with
    | true=> rw [Yjr,Ynr rfl]
    | false=>
      rw [Ykr,Ymr (by simp),show decide (([120,110,45,45]:List UInt8).length+(Yb1 s).1.length≤2 ^ 62)=true from Yhr (by simp only [Yqr,Yvr]; omega),Yjr]; rfl
theorem YW5 (s:List UInt8):(Ys s).1.length≤1048580:=by
  have hl:=Ya8 s
  unfold Ys
  split
  · simp
  · rename_i h
    split
    · rcases YV5 s with ⟨h1,_⟩ | ⟨_,_,h2⟩
      · exact absurd h1 h
      · dsimp only; omega
    · simp only [xn,Yrr,Yqr,Yvr]; omega

theorem YCn (P:Int→Prop) (hP:∀ r,128≤r→P r) (s:List UInt8) (hsl:s.length≤1073741824) (plain:Nat) (f:Nat):∀ (at':Nat) (i n bias:Int) (l:List Int),at'≤s.length→0≤i→i≤2147483647→128≤n→n≤1114111→0≤bias∧bias≤4096→l.length≤at'→YN l→(∀ r∈l,P r)→
    ((decV s plain f at' i n bias l).2.1≠0∧(decV s plain f at' i n bias l).1=[])∨((decV s plain f at' i n bias l).2.1=0∧∃ l',(decV s plain f at' i n bias l).1=Yb l'∧YN l'∧(∀ r∈l',P r)∧l'.length≤s.length):=by
  induction f with
  | zero=>
    intro at' i n bias l hat _ _ _ _ _ hl hs hp
    exact .inr ⟨rfl,l,YV7 l hs,hs,hp,by omega⟩
  | succ f ih=>
    intro at' i n bias l hat hi0 hi1 hn0 hn1 hb hl hs hp
    unfold decV
    by_cases c:s.length≤at'
    · rw [Ynr c]; exact .inr ⟨rfl,l,YV7 l hs,hs,hp,by omega⟩
    · rw [Ymr c]
      have hfacts:=Y0a s bias at' (s.length - at') at' i 1 36 hi0 (by omega) (by omega)
      generalize numV s bias at' (s.length - at') at' i 1 36=y at hfacts ⊢
      by_cases e:y.2.2.1=0
      · obtain ⟨h1,h2,m,h3,h4,h5⟩:=hfacts e
        have q0:0≤y.1 / ((l.length+1:Nat):Int):=Int.ediv_nonneg (by omega) (by omega)
        have r0:0≤y.1 % ((l.length+1:Nat):Int):=Int.emod_nonneg _ (by omega)
        have r1:y.1 % ((l.length+1:Nat):Int) < ((l.length+1:Nat):Int):=Int.emod_lt_of_pos _ (by omega)
        have hb':=YD3 (y.1 - i) ((l.length+1:Nat):Int) (((l.length:Nat):Int)==((plain:Nat):Int)) (by omega) (by omega)
        rw [Ymr (fun h=> h e)]
        by_cases g:1114111 < n+y.1 / ((l.length+1:Nat):Int)∨(55296≤n+y.1 / ((l.length+1:Nat):Int)∧n+y.1 / ((l.length+1:Nat):Int)≤57343)
        · rw [Ynr g]; exact .inl ⟨by simp,rfl⟩
        · rw [Ymr g,h3,Ypr]
          generalize y.1 / ((l.length+1:Nat):Int)=Q at q0 g ⊢
          generalize y.1 % ((l.length+1:Nat):Int)=M at r0 r1 ⊢
          generalize Yi1 (y.1 - i) ((l.length+1:Nat):Int) (((l.length:Nat):Int)==((plain:Nat):Int))=B at hb' ⊢
          have mem:∀ r∈ins l M.toNat (n+Q),r∈l∨r=n+Q:=by
            intro r hr
            unfold ins at hr
            rcases YDr.1 hr with hr | hr
            · rcases YDr.1 hr with hr | hr
              · exact .inl (List.mem_of_mem_take hr)
              · exact .inr (YQr.1 hr)
            · exact .inl (List.mem_of_mem_drop hr)
          refine ih m (M+1) (n+Q) B _ h5 (by omega) (by omega) (by omega) (by omega) hb' ?_ ?_ ?_
          · rw [YO9 _ _ _ (by omega)]; omega
          · intro r hr
            rcases mem r hr with hr | rfl
            · exact hs r hr
            · exact Yhr (by omega)
          · intro r hr
            rcases mem r hr with hr | rfl
            · exact hp r hr
            · exact hP _ (by omega)
      · rw [Ynr e]; exact .inl ⟨e,rfl⟩
end Go.Abs
namespace Go.Abs
set_option autoImplicit false

theorem Yff (s:List UInt8):∀ (n k:Nat),YP1 s n k=none→∀ j,k≤j→j < k+n→bat s j≤127
  | 0,k,_,j,h1,h2=> by omega
  | n+1,k,h,j,h1,h2=> by
    unfold YP1 at h
    split at h
    · cases h
    · by_cases e:j=k
      · subst e; omega
      · exact Yff s n (k+1) h j (by omega) (by omega)
theorem Ymo (s:List UInt8) (h:YP1 s s.length 0=none):∀ b∈s,Y7 b < 128:=by
  intro b hb
  obtain ⟨j,hj,rfl⟩:=List.mem_iff_getElem.1 hb
  have:=Yff s s.length 0 h j (by omega) (by omega)
  have:=(Ys1 s j hj).2
  omega
theorem YEn (P:Int→Prop) (hP:∀ r,128≤r→P r) (s:List UInt8) (hsl:s.length≤1073741824) (hp:∀ b∈s,P (Y7 b)):
    ((Yl1 s).2.1≠0∧(Yl1 s).1=[])∨((Yl1 s).2.1=0∧∃ l,(Yl1 s).1=Yb l∧YN l∧(∀ r∈l,P r)∧l.length≤s.length):=by
  unfold Yl1
  cases hh:YP1 s s.length 0 with
  | some k=> exact .inl ⟨by simp,rfl⟩
  | none=>
    have hb:=Ymo s hh
    have hl:=Yj7 s s.length
    have hb2:∀ b∈s.take (Yp s s.length).toNat,Y7 b < 128:=fun b h=> hb b (List.mem_of_mem_take h)
    have e:=Y15 _ hb2
    dsimp only
    refine YCn P hP s hsl _ s.length (Yp s s.length+1).toNat 0 128 72 _ (by omega) (by omega) (by omega) (by omega) (by omega) (by omega) ?_ ?_ ?_
    · rw [e,List.length_map,YBr]; omega
    · exact YO7 _
    · rw [e]
      intro r hr
      obtain ⟨b,h1,rfl⟩:=List.mem_map.1 hr
      exact hp b (List.mem_of_mem_take h1)
theorem Ysh (P:Int→Prop) (hP:∀ r,128≤r→P r) (s:List UInt8) (hp:∀ b∈s,P (Y7 b)):
    ((YQ s).2.1≠0∧(YQ s).1=[])∨((YQ s).2.1=0∧s.length≤65536∧∃ l,(YQ s).1=Yb l∧YN l∧(∀ r∈l,P r)∧l.length≤s.length):=by
  unfold YQ
  split
  · exact .inl ⟨by simp,rfl⟩
  · rcases YEn P hP s (by omega) hp with h | ⟨h1,h2⟩
    · exact .inl h
    · exact .inr ⟨h1,by omega,h2⟩
theorem Ycb (s:List UInt8):(YQ s).1.length≤262144∧(YQ s).1.length≤4*s.length:=by
  rcases Ysh (fun _=> True) (fun _ _=> trivial) s (fun _ _=> trivial) with ⟨_,h⟩ | ⟨_,h0,l,h1,_,_,h2⟩
  · rw [h]; simp
  · rw [h1]
    have:=YYa l
    omega

def YA (s:List UInt8):List UInt8×Int:=
  if s.length < 4 then (s,0) else if lowS (s.take 4)≠xn then (s,0)
  else if (YQ (s.drop 4)).2.1≠0 then ([],(YQ (s.drop 4)).2.1)
  else if (Ys (YQ (s.drop 4)).1).2≠0 then ([],31)
  else if Yc1 (YQ (s.drop 4)).1=true then ([],31)
  else if lowS (Ys (YQ (s.drop 4)).1).1≠lowS s then ([],31)
  else ((YQ (s.drop 4)).1,0)
theorem Y4l (a b:List UInt8) (ha:a.length≤1073741824) (hb:b.length≤1073741824):YM8 (a,b)=some (lowS a==lowS b):=by
  rw [Y3l,YCi]
  simp only
  rw [Ye4 a ha,Ylr,Ye4 b hb,Ylr]; rfl
theorem YGd (s:List UInt8) (hs:s.length≤1073741824):Yg4 s=some (YA s):=by
  rw [Yol,Ysj]
  unfold YA
  by_cases a:s.length < 4
  · rw [show decide ((s.length:Int) < 4)=true from Yhr (by omega),Yjr,Ynr a]
  · rw [show decide ((s.length:Int) < 4)=false from Yir (by omega),Ykr,Ymr a,show Yi none (some (4:Int)) s.length=true from by simp [Yi]; omega,Yjr,
      show Yl none (some (4:Int)) s=s.take 4 from rfl,Ye4 _ (by rw [YBr]; omega),Ylr,show (List.map lowB (List.take 4 s))=lowS (s.take 4) from rfl]
    by_cases b:lowS (s.take 4)=xn
    · rw [show (!(lowS (s.take 4)==([120,110,45,45]:List UInt8)))=false from by rw [b]; rfl,Ykr,Ymr (fun h=> h b),show Yi (some (4:Int)) none s.length=true from Yj1 (f:=4) (by omega),Yjr,
        show Yl (some (4:Int)) none s=s.drop 4 from rfl,Ykl _ (by rw [YCr]; omega),Ylr,bne0]
      by_cases c:(YQ (s.drop 4)).2.1≠0
      · rw [Yhr c,Yjr,Ynr c]
      · rw [Yir c,Ykr,Ymr c,YFd,Ylr,bne0]
        by_cases d:(Ys (YQ (s.drop 4)).1).2≠0
        · rw [Yhr d,Yjr,Ynr d]
        · have:=YW5 (YQ (s.drop 4)).1
          rw [Yir d,Ykr,Ymr d,YJd,Ylr]
          cases Yc1 (YQ (s.drop 4)).1 with
          | true=> rw [Yjr,Ynr rfl]
          | false=>
            rw [Ykr,Ymr (by simp),Y4l _ _ (by omega) hs,Ylr]
            by_cases e:lowS (Ys (YQ (s.drop 4)).1).1=lowS s
            · rw [e,Ymr (fun h=> h rfl),show (!(lowS s==lowS s))=false from by simp,Ykr]
            · rw [Ynr e,show (!(lowS (Ys (YQ (s.drop 4)).1).1==lowS s))=true from by simp [e],Yjr]
    · rw [show (!(lowS (s.take 4)==([120,110,45,45]:List UInt8)))=true from by simp only [Bool.not_eq_true',Ytr]; exact b,Yjr,Ynr b]
theorem Ysb (s:List UInt8):(YA s).1.length≤4*s.length:=by
  have:=Ycb (s.drop 4)
  rw [YCr] at this
  unfold YA
  repeat' split
  all_goals simp only [Yvr]
  all_goals omega

def isXn (s:List UInt8):Bool:=decide (4≤s.length)&&(s.take 4==xn)
def Yw1 (t:List UInt8) (last:Bool):List UInt8×Int:=
  if 63 < t.length then ([],53) else if t=[]∧last=false then ([],53)
  else if isXn t=true then (if (YA t).2≠0 then ([],53) else if has (YA t).1 65533=true then ([],53) else if Yu4 (YA t).1=true then ([],53) else (t,0))
  else (t,0)
def YG (s:List UInt8) (last:Bool):List UInt8×Int:=
  if Yc1 (lowS s)=false∧has (lowS s) 65533=false then (if (Ys (lowS s)).2≠0 then ([],53) else Yw1 (Ys (lowS s)).1 last)
  else if has (lowS s) 65533=true then ([],53) else Yw1 (lowS s) last
theorem YKo (t:List UInt8) (ht:t.length≤1073741824):((Yk4 (t,([(120:UInt8),(110:UInt8),(45:UInt8),(45:UInt8)]:List UInt8))).bind fun y0=>
            bif y0 then
              (Yg4 t).bind fun y1=>
                bif (y1.2 !=(0:Int)) then
                  some (([]:List UInt8),(53:Int))
                else
                  (Yd4 (y1.1,(65533:Int))).bind fun y2=>
                    bif y2 then
                      some (([]:List UInt8),(53:Int))
                    else
                      (Yj5 (y1.1,())).bind fun y3=>
                        bif (decide (y3≥(0:Int))) then
                          some (([]:List UInt8),(53:Int))
                        else
                          some (t,(0:Int))
            else
              some (t,(0:Int)))=some (if isXn t=true then (if (YA t).2≠0 then ([],53) else if has (YA t).1 65533=true then ([],53) else if Yu4 (YA t).1=true then ([],53) else (t,0))
  else (t,0)):=by
  rw [Yde t _ ht (by simp),Ylr,show (decide (([(120:UInt8),(110:UInt8),(45:UInt8),(45:UInt8)]:List UInt8).length≤t.length)&&(t.take ([(120:UInt8),(110:UInt8),(45:UInt8),(45:UInt8)]:List UInt8).length==[(120:UInt8),(110:UInt8),(45:UInt8),(45:UInt8)]))=isXn t from rfl]
  cases isXn t with
  | false=> rfl
  | true=>
    rw [Yjr,Ynr rfl,YGd t ht,Ylr,bne0]
    by_cases c:(YA t).2≠0
    · rw [Yhr c,Yjr,Ynr c]
    · rw [Yir c,Ykr,Ymr c,Yod,Ylr]
      cases has (YA t).1 65533 with
      | true=> rw [Yjr,Ynr rfl]
      | false=>
        obtain ⟨y,h1,h2⟩:=Yrk (YA t).1
        rw [Ykr,Ymr (by simp),h1,Ylr,h2]
        cases Yu4 (YA t).1 with
        | true=> rw [Yjr,Ynr rfl]
        | false=> rw [Ykr,Ymr (by simp)]
theorem YCf (t:List UInt8) (last:Bool) (ht:t.length≤1073741824):Zo4 t last false=some (Yw1 t last):=by
  rw [Ym8,Ykr]
  unfold Yw1
  by_cases a:63 < t.length
  · rw [show decide ((t.length:Int) > 63)=true from Yhr (by omega),Yjr,Ynr a]
  · rw [show decide ((t.length:Int) > 63)=false from Yir (by omega),Ykr,Ymr a,YKo t ht]
    cases t with
    | nil=>
      rw [show (([]:List UInt8)==[])=true from rfl,Yjr]
      cases last with
      | false=> rw [YIr,Yjr,Ynr ⟨rfl,rfl⟩]
      | true=> rw [YHr,Ykr,Ymr (show ¬(([]:List UInt8)=[]∧true=false) from fun h=> by cases h.2)]
    | cons b t=> rw [show ((b::t)==[])=false from rfl,Ykr,Ymr (show ¬(b::t=[]∧last=false) from fun h=> by cases h.1)]
theorem YNk (s:List UInt8) (last:Bool) (hs:s.length≤1073741824):Y85 (s,last)=some (YG s last):=by
  have h1:=Yl7 s
  have h2:=YW5 (lowS s)
  rw [YMk,Yij]
  simp only
  rw [Ye4 s hs,Ylr,show List.map lowB s=lowS s from rfl,Yod,Ylr,YGk,Ylr,YFd,Ylr,bne0]
  unfold YG
  cases Yc1 (lowS s) with
  | true=>
    rw [YHr,Ykr,Ymr (fun h=> by cases h.1)]
    cases has (lowS s) 65533 with
    | true=> rw [Ynr rfl,Ym8,Yjr]
    | false=> rw [Ymr (by simp),YCf _ _ (by omega)]
  | false=>
    rw [YIr,Yjr]
    cases has (lowS s) 65533 with
    | true=> rw [YHr,Ykr,Ymr (fun h=> by cases h.2),Ynr rfl,Ym8,Yjr]
    | false=>
      rw [YIr,Yjr,Ynr ⟨rfl,rfl⟩]
      by_cases c:(Ys (lowS s)).2≠0
      · rw [Yhr c,Yjr,Ynr c]
      · rw [Yir c,Ykr,Ymr c,YCf _ _ (by omega)]
end Go.Abs
