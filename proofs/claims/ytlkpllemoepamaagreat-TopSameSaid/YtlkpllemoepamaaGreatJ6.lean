/- Texts put together. No condition beyond those that each theorem says. -/
import Derived.Test.YtlkpllemoepamaaGreatJ5
import Derived.Test.YtlkpllemoepamaaGreatJ3
import Derived.Test.YtlkpllemoepamaaGreatJ1
import Derived.Test.YtlkpllemoepamaaGreatLibE
import Derived.Test.YtlkpllemoepamaaGreatJ2
import Derived.Test.YtlkpllemoepamaaGreatJ0
import Derived.Test.YtlkpllemoepamaaGreatLibP
namespace Go.Proofs.YtlkpllemoepamaaGreat
open Go Go.Gm Tryz
set_option linter.unusedVariables false
set_option linter.unusedSimpArgs false
set_option maxHeartbeats 4000000
set_option maxRecDepth 8000
theorem ZuB (l : List Z5) (e : Z5) (k : Int) (hll : l.length ≤ 1000000) (hs : Zgc ZaT l) (f : FuncId) (fn : Func) (cps : List PV) (hf : prog.funcs[f]? = some fn) (hb : fn.body.isSome = true) (hnn : (fn.name == "runtime.NumGoroutine") = false) (hw : ∀ x ∈ l, FnP prog f (.agg (Zat x) :: .agg (Zat e) :: cps) (.int .i64 (ZdC (ZaT x) k))) : FnP prog 195 [.sl Zat l, .agg (Zat e), .clos f cps] (.tup [.int .i64 (lowK ZaT k l), .bool (isK ZaT k l)]) := by
 refine FnP.mk func195 rfl ntmps195 rfl fun B a w F V hfr G=>Ya ?_
 refine Zb G (qx 101 r1 (qI qB)) V [7,6,4,2,0] [101,0] (fun _=>rfl) (fun _=>rfl) fun τ a w F G=>?_
 try dsimp only [RS.sub,SF.sub,CF.sub,csub,Anc.sub,List.map,zCF,Zat] at G
 generalize τ 4=v4 at G
 refine Za (Ya (rZ G (qR rr (qu underlying220 r1 (qO rr qZ))) V [8,7,6,4,2,0] [101,0] fun G=>Ya ?_))
 refine rZ G (qR rr (qI (qO rr qZ))) V [10,9,8,7,6,4,2,0] [101,0] fun G=>(Ya (Yg ?_))
 refine Zl (σ:=Nat×Nat) [0,2,4,6,7,8] [0,101] (fun s=>[(9,.pv (.int .i64 (s.1:Int))),(10,.pv (.int .i64 (s.2:Int)))]) (fun s=>[]) (fun s=>s.1≤s.2∧s.2≤l.length∧(∀ q,q<s.1→ZaT (Nn l q)<k) ∧ ∀ q,s.2≤q→q<l.length→k≤ZaT (Nn l q)) (fun s=>s.2 - s.1) ((0),(l.length)) G ⟨rfl,rfl,rfl,rfl,rfl,rfl,rfl,rfl,tv⟩ ⟨rfl,rfl,tv⟩ ⟨Yv _,YO _,fun q hq=>absurd hq (YX q),fun q h1 h2=>by omega⟩ ?_
 clear G;intro s a w F hC G
 obtain ⟨i,j⟩:=s
 try dsimp only at hC
 obtain ⟨F,G⟩:=G.nM [10,9,8,7,6,4,2,0] [101,0]
 try dsimp only at G
 obtain ⟨hij,hjl,hlo,hhi⟩:=hC
 have hgs:=Zso (i:=i) ow hs hlo
 have hgl:=Zd8 (i:=i) ow hlo
 refine Ya (Ya (rZ G (qR rr (qR rr (qL r2))) V [17,10,9,8,7,6,4,2,0] [101,0] fun G=>?_))
 refine Zc G rfl (fun hc0=>?_) (fun hc0=>?_)
 ·skip
  have hlt:i<j:=by simp at hc0;omega
  refine Ye (Za (Yg (Ya (Zf G (qR rr (qR rr (qf (o_add .t .t) r2 qz (qf (o_conv underlying162 kr .t) r1 qz (qf (Zcl .t qi (by decide)) r1 qz (qf (o_conv underlying3 kr .t) r1 qz (qO rr qZ))))))) V [11,10,9,8,7,6,4,2,0] [101,0] rfl rfl fun a w F G=>?_))))
  obtain ⟨m,hm⟩:∃ m:Nat,m=(i+j) / 2:=⟨_,rfl⟩
  replace G:=G.ent (i:=11) (s':=.pv (.int .i64 (m:Int))) rfl (.int (by rw [hm];exact Zke ow))
  obtain ⟨F,G⟩:=G.nM [11,10,9,8,7,6,4,2,0] [101,0]
  refine Za (Ya (Zx G (qR rr (qR rr (qR rr (qy 3 underlying220 r2 (qf (oR true 3 .t) r1 qz (qe 3 101 r1 r1 (qf (ZN (avs:=[.agg (Zat (Nn l m)),.agg (Zat e)]) .t (hw (Nn l m) (nth_mem ow)) hf hb hnn (Args.two (.pagg .t) (.pagg .t))) r3 qz (qf (Zay .t qi) r1 qz qZ)))))))) V [31,11,10,9,8,7,6,4,2,0] [101,0] rfl rfl fun a w F G=>?_))
  try dsimp only [List.map,xD,xE,xT,xU,ldSF,Zat] at G
  try simp only [Yb] at G
  refine Za (Zc G rfl (fun hc1=>?_) (fun hc1=>?_))
  ·skip
   have hmk:ZaT (Nn l m)<k:=Zhy.1 (by simpa using hc1)
   obtain ⟨i2,hi2e⟩:∃ z,z=m+1:=⟨_,rfl⟩
   obtain ⟨j2,hj2e⟩:∃ z,z=j:=⟨_,rfl⟩
   have hi2:IntKind.wrap .i64 ((m:Int)+1)=(i2:Int):=by rw [hi2e];exact Zd ow
   have hj2:(j:Int)=(j2:Int):=by rw [hj2e]
   have hmu:j2 - i2<j - i:=by omega
   have hC2:i2≤j2∧j2≤l.length∧(∀ q,q<i2→ZaT (Nn l q)<k) ∧ ∀ q,j2≤q→q<l.length→k≤ZaT (Nn l q):=⟨by omega,by omega,fun q hq=>Int.lt_of_le_of_lt (Zcp hs ow ow) hmk,by rw [hj2e];exact hhi⟩
   refine Zf G (qR rr (qp r1 (qO rr qZ))) V [10,9,8,7,6,4,2,0] [101,0] rfl rfl fun a w F G=>Zj (Za ?_)
   replace G:=G.ent (i:=9) (s':=.pv (.int .i64 (i2:Int))) rfl (.int hi2)
   replace G:=G.ent (i:=10) (s':=.pv (.int .i64 (j2:Int))) rfl (.int hj2)
   obtain ⟨F,G⟩:=G.nM [8,7,6,4,2,0,10,9] [101,0]
   exact ⟨((i2),(j2)),F,hC2,G,hmu⟩
  have hmk:k≤ZaT (Nn l m):=Int.not_lt.1 fun e=>(show ¬ ZdC (ZaT (Nn l m)) k<0 by simpa using hc1) (Zhy.2 e)
  obtain ⟨i2,hi2e⟩:∃ z,z=i:=⟨_,rfl⟩
  obtain ⟨j2,hj2e⟩:∃ z,z=m:=⟨_,rfl⟩
  have hi2:(i:Int)=(i2:Int):=by rw [hi2e]
  have hj2:(m:Int)=(j2:Int):=by rw [hj2e]
  have hmu:j2 - i2<j - i:=by omega
  have hC2:i2≤j2∧j2≤l.length∧(∀ q,q<i2→ZaT (Nn l q)<k) ∧ ∀ q,j2≤q→q<l.length→k≤ZaT (Nn l q):=⟨by omega,by omega,by rw [hi2e];exact hlo,fun q h1 h2=>YbW hmk (Zcp hs ow h2)⟩
  refine Zf G (qR rr (qO rr qZ)) V [10,9,8,7,6,4,2,0] [101,0] rfl rfl fun a w F G=>Zj (Za ?_)
  replace G:=G.ent (i:=9) (s':=.pv (.int .i64 (i2:Int))) rfl (.int hi2)
  replace G:=G.ent (i:=10) (s':=.pv (.int .i64 (j2:Int))) rfl (.int hj2)
  obtain ⟨F,G⟩:=G.nM [8,7,6,4,2,0,10,9] [101,0]
  exact ⟨((i2),(j2)),F,hC2,G,hmu⟩
 have hjj:i=j:=by simp at hc0;omega
 subst hjj
 have hgl2:=hgl hhi
 have hgs2:=hgs hhi
 have hb2:(decide ((i:Int)<(l.length:Int)) && decide (ZdC (ZaT (Nn l i)) k=0))=isK ZaT k l:=by
   rw [Yan,hgs2]
   simp [Zpy]
 refine Yw (Zi (Zi (Zn (Za (Ya (Zx G (qR rr (qR rr (qR rr (qf (Zay .t .t) r2 qz (qR rr (qm rfl rfl rfl rfl (qm rfl rfl rfl rfl (qm rfl rfl rfl rfl (qk rfl (fun h=>o_indexAddr_sl (sz:=3) (.mk underlying220 kr) (by intro x;rfl) (.w h) (.w h) ow (by have:=Yt h;omega)) r3 qz (qk rfl (fun h=>oR true 3 (.w h)) r2 qz (qk rfl (fun h=>oL true 3 101 .is) r2 r1 (qk rfl (fun h=>ZN (avs:=[.agg (Zat (Nn l i)),.agg (Zat e)]) (.w h) (hw (Nn l i) (nth_mem (by have:=Yt h;omega))) hf hb hnn (Args.two (.pagg (.w h)) (.pagg (.w h)))) r4 qz (qk rfl (fun h=>o_eql (.w h) qi) r2 qz (qf (ZD .t .t) r2 qz (qO rr (qO rr qZ)))))))))))))))) V [7,6] [0] rfl rfl fun a w F G=>?_))))))
 try dsimp only [List.map,xD,xE,xT,xU,ldSF,Zat] at G
 try simp only [Yb] at G
 refine Za (Yh (Z2 hfr G rfl (.tmp rfl (.tmp rfl .nil)) (.two (.int (by rw [hgl2])) (.bool hb2))))
theorem ZuK (v:Value) (l:List Z5) (i:Nat) (x:Z5) (hll:l.length≤1000000) (hi:i≤l.length):FnG prog 197 1 [.is v,.int .i64 i,.sl Zat [x]] [ZA 217 3 Zat l v] (PV.one) (fun v=>[ZA 217 3 Zat (l.take i ++ [x] ++ l.drop i) v]):=by
 refine FnG.mk func197 rfl ntmps197 rfl kr fun B F0 a w F V hG G=>?_
 replace G:=G.turn 1 rfl (r':=.ob (.val v) (ZA 217 3 Zat l)) (fun _ _ _ _ h=>h)
 refine Ya (rZ G (qC qZ) V [6,2,1,0] [1,0] fun G=>Ya ?_)
 refine rZ G (qR rr (qR rr (qf (Zpm (sz:=3) 1 (.mk underlying220 kr) .is .t ow ow) r2 r1 qZ))) V [6,2,1,0] [1,0] fun G=>Ya ?_
 refine Zf G (qR rr (qu underlying220 r1 (qO rr qZ))) V [7,6,2,1,0] [1,0] rfl rfl fun a w F G=>?_
 replace G:=G.ent (i:=7) (s':=.pv (.int .i64 1)) rfl (.int rfl)
 obtain ⟨F,G⟩:=G.nM [7,6,2,1,0] [1,0]
 refine Za (Ya (Ya (rZ G (qR rr (qf (o_eql .t qi) r1 qz qZ)) V [16,7,6,2,1,0] [1,0] fun G=>?_)))
 refine Zc G rfl (fun hc0=>?_) (fun hc0=>?_)
 ·simp at hc0
 refine Ye (Za (Ya (rZ G (qR rr (qf (Z1 1 underlying220 .is) r1 r1 (qO rr qZ))) V [8,7,6,2,1,0] [1,0] fun G=>(Ya (Ya ?_)))))
 refine rZ G (qR rr (qR rr (qf (o_eql .t .t) r2 qz qZ))) V [22,8,7,6,2,1,0] [1,0] fun G=>?_
 refine Zc G rfl (fun hc1=>?_) (fun hc1=>?_)
 ·have hg:=ZsP (x:=x) (by have h9:=hc1;simp at h9;omega:i=l.length)
  refine Ya (Zb G (qR rr (qR rr (qf (ZW (sz:=3) (bs:=24) 1 (.mk' underlying220 kr kr) (by intro x;rfl) .is (.sl .t) (by simp only [Yl,Yy];omega) (by decide)) ⟨rfl,rfl,tv⟩ ⟨rfl,tv⟩ (qO rr qZ)))) V [8,7,6,2,1,0] [1,0] (fun _=>rfl) (fun _=>rfl) fun τ a w F G=>?_)
  try dsimp only [RS.sub,SF.sub,CF.sub,csub,Anc.sub,List.map,xC,xN,Zat] at G
  generalize τ 25=v25 at G
  refine Za (Yh (Zk ?_))
  have G:=G.turn 1 rfl (r':=RS.hp (ZA 217 3 Zat (l.take i ++ [x] ++ l.drop i) v25)) (fun _ _ _ _ h=>by rw [hg];exact h)
  refine Z8 (h':=fun v=>ZA 217 3 Zat (l.take i ++ [x] ++ l.drop i) v) hG G rfl (.tmp rfl .nil) (.one .one) rfl
 have hil:i<l.length:=by simp at hc1;omega
 have hw1:IntKind.wrap .i64 ((i:Int)+1)=((i+1:Nat):Int):=Zd ow
 have hwn:IntKind.wrap .i64 ((l.length:Int)+1)=((l.length+1:Nat):Int):=Zd ow
 refine Ye (Za (Ya (Ya (rZ G (qR rr (qR rr (qf (o_add .t .t) r2 qz (qR rr (qf (Zob 1 underlying220 .is) r1 r1 (qf (ZaU .t .t) r2 qz qZ)))))) V [31,8,7,6,2,1,0] [1,0] fun G=>?_))))
 refine Zc G rfl (fun hc2=>?_) (fun hc2=>?_)
 ·have hcap:capV v<l.length+1:=by rw [hwn] at hc2;simp at hc2;omega
  have hw:IntKind.wrap .i64 (IntKind.wrap .i64 ((l.length:Int)+1) - (i:Int))=((l.length+1 - i:Nat):Int):=by rw [hwn,Zy ow];omega
  refine Ya (Zb G (qR rr (qR rr (qf (ZgR (sz:=3) 1 (.mk underlying220 kr) .is .t ow ow) r2 r1 (qR rr (qR rr (qf (o_add .t .t) r2 qz (qR rr (qf (o_sub .t .t) r2 qz (qf (Zgm (R:=Zat) (z:=(⟨0,0,0⟩:Z5)) (bs:=24) (sz:=3) (zs:=[.int .i64 0,.int .i64 0,.int .i64 0]) 1 101 underlying220 underlying3 kr kr kr (by intro x;rfl) (fun _ _=>⟨⟨rfl,rfl,Zdj⟩,⟨rfl,rfl,Zdj⟩,⟨rfl,rfl,Zdj⟩,tv⟩) .t .t ow (by rw [hw];omega) (by rw [hw];omega) (by rw [hw];omega) (by rw [hw];omega)) ⟨rfl,rfl,tv⟩ ⟨rfl,tv⟩ (qO rr qZ)))))))))) V [9,8,7,6,2,1,0] [101,1,0] (fun _=>rfl) (fun _=>rfl) fun τ a w F G=>?_)
  try dsimp only [RS.sub,SF.sub,CF.sub,csub,Anc.sub,List.map,xC,xN,Zat] at G
  generalize τ 40=v40 at G
  rw [hw] at G
  simp only [Yb] at G
  obtain ⟨l2,hl2⟩:∃ y,y=l.take i++List.replicate (l.length+1 - i) (⟨0,0,0⟩:Z5):=⟨_,rfl⟩
  rw [← hl2] at G
  have hl2n:l2.length=l.length+1:=by rw [hl2,Yd,Yj,YZ];omega
  obtain ⟨F,G⟩:=G.give 1 0 rfl rfl
  obtain ⟨F,G⟩:=G.nM [9,8,7,6,2,1,0] [101,0]
  refine Za (Ya (Zf G (qR rr (qR rr (qf (ZaV (sz:=3) 101 (.mk underlying220 kr) .is .t ow ow) r2 r1 (qR rr (qf (o_copy_sub 101 underlying220 kr (by intro x;rfl) .t .t (by simp) (by simp;omega)) r2 r1 qZ))))) V [9,8,7,6,2,1,0] [101,0] rfl rfl fun a w F G=>?_))
  simp only [Yb] at G
  obtain ⟨l3,hl3⟩:∃ y,y=l2.take i ++ [x] ++ l2.drop (i + [x].length):=⟨_,rfl⟩
  rw [← hl3] at G
  have hl3n:l3.length=l.length+1:=by rw [hl3,Yd,Yd,Yj,YH,hl2n];simp;omega
  refine Za (Ya (Zx G (qR rr (qR rr (qR rr (qf (o_add .t .t) r2 qz (qf (ZaV (sz:=3) 101 (.mk underlying220 kr) .is .t (by rw [hw1];omega) (by rw [hw1];omega)) r2 r1 (qR rr (qR rr (qf (o_slice_lo (sz:=3) (.mk underlying220 kr) (by intro x;rfl) .t .t ow ow) r2 qz (qf (o_copy_sub 101 underlying220 kr (by intro x;rfl) .t .t (by intro h9;have:=Y7 List.length h9;simp at this;omega) (by rw [hw1,YH];omega)) r2 r1 qZ))))))))) V [9,8,7,6,2,1,0] [101,0] rfl rfl fun a w F G=>?_))
  try dsimp only [Zat] at G
  rw [hw1] at G
  simp only [Yb] at G
  have hg:=Zry (x:=x) hil hl2 hl3
  refine Za (Ya (rZ G (qR rr (qO rr qZ)) V [8,7,6,2,1,0] [101,0] fun G=>(Yh (Zk ?_))))
  obtain ⟨F,G⟩:=G.rename 101 1 rfl rfl
  have G:=G.turn 1 rfl (r':=RS.hp (ZA 217 3 Zat (l.take i ++ [x] ++ l.drop i) v40)) (fun _ _ _ _ h=>by rw [hg];exact h)
  refine Z8 (h':=fun v=>ZA 217 3 Zat (l.take i ++ [x] ++ l.drop i) v) hG G rfl (.tmp rfl .nil) (.one .one) rfl
 have hcap:l.length+1≤capV v:=by rw [hwn] at hc2;simp at hc2;omega
 refine Ye (Za (Ya (Zb G (qR rr (qR rr (qR rr (qf (o_add .t .t) r2 qz (qf (Zmf (sz:=3) 1 (.mk underlying220 kr) .is .t (by rw [hwn];omega) ow) r2 r1 (qO rr qZ)))))) V [8,7,6,2,1,0] [1,0] (fun _=>rfl) (fun _=>rfl) fun τ a w F G=>?_)))
 try dsimp only [RS.sub,SF.sub,CF.sub,csub,Anc.sub,List.map,Zat] at G
 generalize τ 60=v60 at G
 refine Za (Ya (Ya (rZ G (qR rr (qR rr (qR rr (qR rr (qf (o_add .t .t) r2 qz (qf (Zeq (sz:=3) 1 (.mk underlying220 kr) .is .t (by rw [hw1];omega) (by rw [hw1];omega)) r2 r1 (qf (ZlT 1 func219 kr kr kr rfl underlying220 kr (by intro x;rfl) .t .t (by rw [hw1];omega)) r2 r1 (qf (o_not .t) r1 qz qZ)))))))) V [68,8,7,6,2,1,0] [1,0] fun G=>?_)))
 refine Zc G rfl (fun hc3=>?_) (fun hc3=>?_)
 ·refine Ya (Zx G (qR rr (qR rr (qR rr (qf (o_add .t .t) r2 qz (qf (Zeq (sz:=3) 1 (.mk underlying220 kr) .is .t (by rw [hw1];omega) (by rw [hw1];omega)) r2 r1 (qR rr (qR rr (qf (Zeq (sz:=3) 1 (.mk underlying220 kr) .is .t ow ow) r2 r1 (qf (ZiT (k:=i) 1 underlying220 kr (by intro x;rfl) .t .t (by rw [hw1];rfl) rfl ow) r2 r1 qZ))))))))) V [8,7,6,2,1,0] [1,0] rfl rfl fun a w F G=>?_)
  try dsimp only [Zat] at G
  obtain ⟨l4,hl4⟩:∃ y,y=l.take (i+1)++l.drop i:=⟨_,rfl⟩
  rw [← hl4] at G
  have hl4n:l4.length=l.length+1:=by rw [hl4,Yd,Yj,YH];omega
  refine Za (Ya (Zf G (qR rr (qR rr (qf (ZaV (sz:=3) 1 (.mk underlying220 kr) .is .t ow ow) r2 r1 (qR rr (qf (o_copy_sub 1 underlying220 kr (by intro x;rfl) .t .t (by simp) (by simp;omega)) r2 r1 qZ))))) V [8,7,6,2,1,0] [1,0] rfl rfl fun a w F G=>?_))
  simp only [Yb] at G
  have hg:=ZnN (x:=x) hil hl4
  refine Za (Ya (rZ G (qR rr (qO rr qZ)) V [8,7,6,2,1,0] [1,0] fun G=>(Yh (Zk ?_))))
  have G:=G.turn 1 rfl (r':=RS.hp (ZA 217 3 Zat (l.take i ++ [x] ++ l.drop i) v60)) (fun _ _ _ _ h=>by rw [hg];exact h)
  refine Z8 (h':=fun v=>ZA 217 3 Zat (l.take i ++ [x] ++ l.drop i) v) hG G rfl (.tmp rfl .nil) (.one .one) rfl
 simp at hc3
theorem Zs3 (l : List OrdD) (p : OrdD → Bool) (f : FuncId) (fn : Func) (cps : List PV) (hf : prog.funcs[f]? = some fn) (hb : fn.body.isSome = true) (hnn : (fn.name == "runtime.NumGoroutine") = false) (hw : ∀ x, FnP prog f (.agg (ZP x) :: cps) (.bool (p x))) : FnP prog 40 [.sl ZP l, .clos f cps] (.int .i64 (Z3 p l)) := by
 refine FnP.mk func40 rfl ntmps40 rfl fun B a w F V hfr G=>?_
 have hll:=Sat.lenSl G (i:=0) rfl
 refine Ya (rZ G (qI qZ) V [4,1,0] [0] fun G=>(Ya (Ya ?_)))
 refine rZ G (qR rr (qu underlying23 r1 (qJ qZ))) V [8,7,4,1,0] [0] fun G=>Yg ?_
 refine Zl (σ:=(Nat)) [0,1,4,7] [0] (fun s=>[(8,.pv (.int .i64 (s:Int)))]) (fun s=>[]) (fun s=>s≤l.length∧(∀ k,k<s→p (Nn l k)=false)) (fun s=>l.length - s) (0) G ⟨rfl,rfl,rfl,rfl,rfl,tv⟩ ⟨rfl,tv⟩ ⟨Yv _,fun k hk=>absurd hk (YX k)⟩ ?_
 clear G;intro i a w F hC G
 try dsimp only at hC
 obtain ⟨F,G⟩:=G.nM [8,7,4,1,0] [0]
 try dsimp only at G
 obtain ⟨hi,hq⟩:=hC
 refine Ya (rZ G (qL r2) V [9,8,7,4,1,0] [0] fun G=>Ya ?_)
 refine Zc G rfl (fun hc0=>?_) (fun hc0=>?_)
 ·skip
  have hil:i<l.length:=by simp at hc0;omega
  refine Ye (Za (Ya (Yg (Ya (rZ G (qR rr (qO rr qZ)) V [8,7,5,4,1,0] [0] fun G=>Ya ?_)))))
  refine Zf G (qR rr (qR rr (qR rr (qy 2 underlying23 r2 (qf (oR true 2 .t) r1 qz (qf (ZN (avs:=[.agg (ZP (Nn l i))]) .t (hw (Nn l i)) hf hb hnn (Args.one (.pagg .t))) r2 qz qZ)))))) V [16,8,7,5,4,1,0] [0] rfl rfl fun a w F G=>?_
  try simp only [Yb] at G
  refine Za (Zc G rfl (fun hc1=>?_) (fun hc1=>?_))
  ·skip
   have hg:(i:Int)=Z3 p l:=(Zc7 hil hc1 hq).symm
   refine Ya (rZ G (qR rr (qO rr qZ)) V [8,7,4,1,0] [0] fun G=>(Yh (Zu (Zk (Zk (Zu (Zk ?_)))))))
   refine Zo hfr G rfl rfl rfl (.int hg)
  have hne:p (Nn l i)=false:=hc1
  refine Ye (Zj (Za (rZ G (qp r1 (qR rr qZ)) V [8,7,4,1,0] [0] fun G=>?_)))
  replace G:=G.ent (i:=8) (s':=.pv (.int .i64 ((i+1:Nat):Int))) rfl (.int (Zd ow))
  obtain ⟨F,G⟩:=G.nM [7,4,1,0,8] [0]
  exact ⟨(i+1),F,⟨by omega,(fun k hk=>by rcases YS (YY hk) with h | h;exact hq k h;rw [h];exact hne)⟩,G,by omega⟩
 have hil:i=l.length:=by simp at hc0;omega
 have hg : -1=Z3 p l:=(ZbT fun k hk=>hq k (by simp at hc0;omega)).symm
 refine Yw (Zi (Zi (Zn (Za (Ya (rZ G (qI qZ) V [4] [0] fun G=>Yh ?_))))))
 refine Zo hfr G rfl rfl rfl (.int hg)
theorem cloneIP_c (l:List Int) (hl:l.length≤1000000):FnP prog 42 [.sl rInt l] (.sl rInt l):=by
 refine FnP.mk func42 rfl ntmps42 rfl fun B a w F V hfr G=>Ya ?_
 refine rZ G (qC qZ) V [2,0] [0] fun G=>(Ya (Ya ?_))
 refine Zf G (qR rr (qf (Zby underlying45 .t) r1 qz qZ)) V [4,2,0] [0] rfl rfl fun a w F G=>?_
 obtain ⟨β4,hβ4,G⟩:=G.pickBool 4 rfl
 obtain ⟨F,G⟩:=G.nM [4,2,0] [0]
 refine Za (Zc G rfl (fun hc0=>?_) (fun hc0=>?_))
 ·have hg:l = []:=hβ4 hc0
  refine Ya (rZ G (qC qZ) V [2,0] [0] fun G=>(Yh (Zk ?_)))
  refine Zo hfr G rfl rfl rfl (.trans .nilSl (.sl (by rw [hg])))
 have hg:l = [] ++ l:=rfl
 refine Ye (Za (Ya (Zb G (qf (ZaW (R:=rInt) (sz:=1) 101 underlying45 kr) trivial qz (qR rr (qf (ZW (sz:=1) (bs:=8) 101 (.mk' underlying45 kr kr) (by intro x;rfl) .same (.sl .t) (by simp only [Yd,Yy];omega) (by decide)) ⟨rfl,rfl,tv⟩ ⟨rfl,tv⟩ (qO rr qZ)))) V [2] [101,0] (fun _=>rfl) (fun _=>rfl) fun τ a w F G=>?_)))
 try dsimp only [RS.sub,SF.sub,CF.sub,csub,Anc.sub,List.map,Ze,xL,xM,Nat.reduceAdd,xD,xE,xT,xU,xC,xN,zCF,rInt] at G
 generalize τ 7=v7 at G
 refine Za (Yh ?_)
 obtain ⟨F,G⟩:=G.give 101 2 rfl rfl
 refine Zo hfr G rfl rfl rfl (.sl (by rw [hg]))
theorem Zuc (g:Zt) (hs:Zbc g):FnG prog 60 1 [.agg (Zs g)] [.star []] (PV.self ZuW) (fun v=>[Zs5 (ZA 30 3 rTx g.txs) (ZA 70 2 ZP g.orders) v]):=by
 refine FnG.mk func60 rfl ntmps60 rfl kr fun B F0 a w F V hG G=>?_
 have hsl:=hs.1.1
 have hso:=hs.2.1
 obtain ⟨F,G⟩:=G.nM [0] [0]
 refine Ya (Zb G (qx 101 r1 (qf (oH [.slice none 0 0,.slice none 0 0] 102) trivial qz qZ)) V [2,1] [102,101,0] (fun _=>rfl) (fun _=>rfl) fun τ a w F G=>?_)
 try dsimp only [RS.sub,SF.sub,CF.sub,csub,Anc.sub,List.map,zCF,Zs,rTx,ZP,ZS,rInt,rOp] at G
 generalize τ 1=v1 at G
 generalize τ 2=v2 at G
 refine Za (Ya (Zb G (qf (oH [.slice none 0 0,.slice none 0 0] 103) trivial qz qZ) V [3,2,1] [103,102,101,0] (fun _=>rfl) (fun _=>rfl) fun τ a w F G=>?_))
 try dsimp only [RS.sub,SF.sub,CF.sub,csub,Anc.sub,List.map,zCF,Zs,rTx,ZP,ZS,rInt,rOp] at G
 generalize τ 3=v3 at G
 refine Za (Ya (Ya (rZ G (qg 0 101 r1 r1 (qa 101 r1 r1 (qu underlying22 r1 (qJ qZ)))) V [11,10,9,3,2,1] [103,102,101,0] fun G=>Yg ?_)))
 replace G:=G.fresh 50 rfl
 replace G:=G.turn 50 rfl (ZaA (T:=30) (sz:=3) (R:=rTx))
 refine Zl (σ:=(Nat)×(Value)×(List TxD)) [1,2,3,9,10] [0,101,102] (fun s=>[(11,.pv (.int .i64 (s.1:Int)))]) (fun s=>[(103,.pt (.val v3) 25 [.pv (.is s.2.1),.pv (.is (.slice none 0 0))]),(50,.ob (.val s.2.1) (ZA 30 3 rTx s.2.2))]) (fun s=>s.1≤g.txs.length∧(s.2.2=g.txs.take s.1)) (fun s=>g.txs.length - s.1) ((0),(.slice none 0 0),([])) G ⟨rfl,rfl,rfl,rfl,rfl,rfl,tv⟩ ⟨rfl,rfl,rfl,rfl,rfl,tv⟩ ⟨Yv _,rfl⟩ ?_
 clear G;intro s a w F hC G
 obtain ⟨i,va,oa⟩:=s
 try dsimp only at hC
 obtain ⟨F,G⟩:=G.nM [11,10,9,3,2,1] [103,102,101,50,0]
 try dsimp only at G
 obtain ⟨hi,hq⟩:=hC
 have hol:oa.length≤i:=by rw [hq,Yj];omega
 refine Ya (rZ G (qL r2) V [12,11,10,9,3,2,1] [103,102,101,50,0] fun G=>Ya ?_)
 refine Zc G rfl (fun hc0=>?_) (fun hc0=>?_)
 ·have hil:i<g.txs.length:=by simp at hc0;omega
  have hio:=hil
  refine Ye (Za (Ya (Yg (Ya (Zb G (qy 3 underlying22 r2 (qf (oR true 3 .t) r1 qz (qf (oH [.int .i64 0,.bool false,.slice none 0 0] 104) trivial qz (qS 3 104 r2 r1 qZ)))) V [11,10,9,5,3,2,1] [104,103,102,101,50,0] (fun _=>rfl) (fun _=>rfl) fun τ a w F G=>?_)))))
  try dsimp only [RS.sub,SF.sub,CF.sub,csub,Anc.sub,List.map,Ze,xL,xM,Nat.reduceAdd,xD,xE,xT,xU,xC,xN,zCF,ldSF,Zs,rTx,ZP,ZS,rInt,rOp] at G
  generalize τ 5=v5 at G
  try simp only [Yb] at G
  refine Za (ZaI G (qg 0 103 r1 r1 (qa 103 r1 r1 (qe 3 104 r1 r1 (qf (oP (ZkT (Nn g.txs i) (by have:=hs.1.at hio;omega)) func62 (Args.one (.pagg .t))) r1 qz (qf (o_buildSliceE (sz:=3) (zs:=[.int .i64 0,.bool false,.slice none 0 0]) (r:=[(0,.tmp 18)]) (l:=[_,_,_]) underlying22 kr kr kr kr rfl rfl (.agg rfl (.conv .t .agg) kr kr .nil) rfl) r1 qz (qf (ZW (sz:=3) (bs:=40) 50 (.mk' underlying22 kr kr) (by intro x;rfl) .is (.arr (l':=[(Nn g.txs i)]) .t) (by simp only [Yd,Yl,Yy];omega) (by decide)) ⟨rfl,rfl,tv⟩ ⟨rfl,tv⟩ (qg 0 103 r1 r1 (qf (o_storeS 103 .adr kr kr) r2 r1 qZ)))))))) V [11,10,9,3,2,1] [104,103,102,101,50,0] (fun _=>rfl) (fun _=>rfl) fun τ a w F G=>?_)
  try dsimp only [RS.sub,SF.sub,CF.sub,csub,Anc.sub,List.map,Ze,xL,xM,Nat.reduceAdd,xD,xE,xT,xU,xC,xN,zCF,ldSF,Zs,rTx,ZP,ZS,rInt,rOp] at G
  generalize τ 20=v20 at G
  refine Zj (Za (rZ G (qp r1 (qR rr qZ)) V [11,10,9,3,2,1] [104,103,102,101,50,0] fun G=>?_))
  replace G:=G.ent (i:=11) (s':=.pv (.int .i64 ((i+1:Nat):Int))) rfl (.int (Zd ow))
  obtain ⟨F,G⟩:=G.nM [10,9,3,2,1,11] [102,101,0,50,103]
  exact ⟨((i+1),_,_),F,⟨by omega,(by rw [Zr hil,← hq])⟩,G,by omega⟩
 have hil:i=g.txs.length:=by simp at hc0;omega
 have hqa:oa=g.txs:=by rw [hq,hil,YD]
 subst hqa
 refine Yw (Zi (Zi (Zn (Za (Ya (Ya (rZ G (qg 1 101 r1 r1 (qa 101 r1 r1 (qu underlying23 r1 (qJ qZ)))) V [26,25,24,3,2] [103,102,101,50,0] fun G=>Yg ?_)))))))
 replace G:=G.fresh 51 rfl
 replace G:=G.turn 51 rfl (ZaA (T:=70) (sz:=2) (R:=ZP))
 refine Zl (σ:=(Nat)×(Value)×(List OrdD)) [2,3,24,25] [0,50,101,102] (fun s=>[(26,.pv (.int .i64 (s.1:Int)))]) (fun s=>[(103,.pt (.val v3) 25 [.pv (.is va),.pv (.is s.2.1)]),(51,.ob (.val s.2.1) (ZA 70 2 ZP s.2.2))]) (fun s=>s.1≤g.orders.length∧(s.2.2=g.orders.take s.1)) (fun s=>g.orders.length - s.1) ((0),(.slice none 0 0),([])) G ⟨rfl,rfl,rfl,rfl,rfl,tv⟩ ⟨rfl,rfl,rfl,rfl,rfl,rfl,tv⟩ ⟨Yv _,rfl⟩ ?_
 clear G;intro s a w F hC G
 obtain ⟨i,vb,ob⟩:=s
 try dsimp only at hC
 obtain ⟨F,G⟩:=G.nM [26,25,24,3,2] [103,102,101,51,50,0]
 try dsimp only at G
 obtain ⟨hi,hq⟩:=hC
 have hol:ob.length≤i:=by rw [hq,Yj];omega
 refine Ya (rZ G (qL r2) V [27,26,25,24,3,2] [103,102,101,51,50,0] fun G=>Ya ?_)
 refine Zc G rfl (fun hc1=>?_) (fun hc1=>?_)
 ·have hil:i<g.orders.length:=by simp at hc1;omega
  have hio:=hil
  refine Ye (Za (Ya (Yg (Ya (Zb G (qy 2 underlying23 r2 (qf (oR true 2 .t) r1 qz (qf (oH [.int .i64 0,.slice none 0 0] 105) trivial qz (qS 2 105 r2 r1 qZ)))) V [26,25,24,7,3,2] [105,103,102,101,51,50,0] (fun _=>rfl) (fun _=>rfl) fun τ a w F G=>?_)))))
  try dsimp only [RS.sub,SF.sub,CF.sub,csub,Anc.sub,List.map,Ze,xL,xM,Nat.reduceAdd,xD,xE,xT,xU,xC,xN,zCF,ldSF,Zs,rTx,ZP,ZS,rInt,rOp] at G
  generalize τ 7=v7 at G
  try simp only [Yb] at G
  refine Za (ZaI G (qg 1 103 r1 r1 (qa 103 r1 r1 (qg 0 105 r1 r1 (qa 105 r1 r1 (qg 1 105 r1 r1 (qa 105 r1 r1 (qf (oP (cloneIP_c (Nn g.orders i).txs (by have:=hs.2.at hio;omega)) func42 (Args.one .t)) r1 qz (qf (oB [(0,.tmp 33),(1,.tmp 36)] [.int .i64 0,.slice none 0 0] [(0,1),(1,1)] (.one rfl .t one_int kr (.one rfl .t one_sl kr .nil))) r2 qz (qf (o_buildSliceE (sz:=2) (zs:=[.int .i64 0,.slice none 0 0]) (r:=[(0,.tmp 37)]) (l:=[_,_]) underlying23 kr kr kr kr rfl rfl (.agg rfl .t kr kr .nil) rfl) r1 qz (qf (ZW (sz:=2) (bs:=32) 51 (.mk' underlying23 kr kr) (by intro x;rfl) .is (.arr (l':=[(Nn g.orders i)]) .t) (by simp only [Yd,Yl,Yy];omega) (by decide)) ⟨rfl,rfl,tv⟩ ⟨rfl,tv⟩ (qg 1 103 r1 r1 (qf (o_storeS 103 .adr kr kr) r2 r1 qZ)))))))))))) V [26,25,24,3,2] [105,103,102,101,51,50,0] (fun _=>rfl) (fun _=>rfl) fun τ a w F G=>?_)
  try dsimp only [RS.sub,SF.sub,CF.sub,csub,Anc.sub,List.map,Ze,xL,xM,Nat.reduceAdd,xD,xE,xT,xU,xC,xN,zCF,ldSF,Zs,rTx,ZP,ZS,rInt,rOp] at G
  generalize τ 39=v39 at G
  refine Zj (Za (rZ G (qp r1 (qR rr qZ)) V [26,25,24,3,2] [105,103,102,101,51,50,0] fun G=>?_))
  replace G:=G.ent (i:=26) (s':=.pv (.int .i64 ((i+1:Nat):Int))) rfl (.int (Zd ow))
  obtain ⟨F,G⟩:=G.nM [25,24,3,2,26] [102,101,50,0,51,103]
  exact ⟨((i+1),_,_),F,⟨by omega,(by rw [Zr hil,← hq])⟩,G,by omega⟩
 have hil:i=g.orders.length:=by simp at hc1;omega
 have hqb:ob=g.orders:=by rw [hq,hil,YD]
 subst hqb
 refine Yw (Zi (Zi (Zn (Za (Ya (rZ G (qe 2 103 r1 r1 (qs 2 102 r2 r1 qZ)) V [2] [103,102,101,51,50,0] fun G=>Yh ?_))))))
 have G:=G.fresh 1 rfl
 obtain ⟨F,G⟩:=G.push 1 51 rfl rfl rfl rfl
 obtain ⟨F,G⟩:=G.push 1 50 rfl rfl rfl rfl
 refine ZuG hG G rfl (.cl 102 true 2 rfl rfl .nil) (.one (.aggU rfl rfl)) rfl
theorem Zpn {α:Type} {κ:α→Int} {k:Int} (l:List α):lowK κ k l≤l.length:=by
 unfold lowK
 exact (List.takeWhile_sublist _).length_le
theorem ZY {α:Type} [Inhabited α] {κ:α→Int} {l:List α} : Zgc κ l ↔ l.Pairwise fun a b=>κ a<κ b:=by
 rw [Yaz]
 constructor
 ·intro h i j hi hj hij
  have:=h i j hij hj
  rwa [nth_eq hi,nth_eq hj] at this
 ·intro h a b hab hb
  rw [nth_eq ow,nth_eq hb]
  exact h a b ow hb hab
abbrev ZvJ (T TR:TypeId) (p va:Value) (os:List OrdD):HP:=HP.ex fun vb:Value=>HP.star [.pt (.val p) T [.pv (.is va),.pv (.is vb)],.ob (.val vb) (ZA TR 2 ZP os)]
theorem Ztp {k:IntKind} {a:Int} {b:Bool} (v:Value) (w:World) (y y':Ys) (h:(PV.tup [.int k a,.bool b]).p v w y):(PV.tup [.int k a,.bool b]).p v w y':=by
 obtain ⟨vs,e,h⟩:=h
 match vs,h with
 | [_,_],h=>exact ⟨_,e,h⟩
def insE (l:List Z5) (e:Z5):List Z5:=l.take (lowK ZaT (ZaT e) l) ++ [e] ++ l.drop (lowK ZaT (ZaT e) l)
theorem putE_c (v:Value) (l:List Z5) (e:Z5) (hll:l.length≤1000000) (hs:Zgc ZaT l) (hl:∀ x ∈ l,okE x) (he:okE e):FnG prog 157 1 [.is v,.agg (Zat e)] [ZA 217 3 Zat l v] (PV.one) (fun v=>[ZA 217 3 Zat (insE l e) v]):=by
 refine FnG.mk func157 rfl ntmps157 rfl kr fun B F0 a w F V hG G=>?_
 replace G:=G.turn 1 rfl (r':=.ob (.val v) (ZA 217 3 Zat l)) (fun _ _ _ _ h=>h)
 refine Ya (Zb G (qx 101 r1 (qC qZ)) V [4,3,0] [101,1,0] (fun _=>rfl) (fun _=>rfl) fun τ a w F G=>?_)
 try dsimp only [RS.sub,SF.sub,CF.sub,csub,Anc.sub,List.map,zCF,Zat,Zas,rInt,Zak] at G
 generalize τ 3=v3 at G
 refine Za (Ya (rZ G (qR rr (qe 3 101 r1 r1 (qf (OpC.lendRow 1 [8] (oP (ZuB l e (ZaT e) hll hs 196 f196 [] func196 rfl kr (fun x hx=>Zss x e (hl x hx) he)) func195 (Args.three .t (.pagg .t) (.conv .f (Ent.fnClos)))) ⟨rfl,tv,tv⟩ (.pv Ztp) trivial (by rfl)) r2 r1 (qR rr (qf (Zh .t rfl) r1 qz (qf (Zh .t rfl) r1 qz (qO rr (qO rr qZ)))))))) V [5,4,3,0] [101,1,0] fun G=>Ya ?_))
 refine Zb G (qR rr (qR rr (qe 3 101 r1 r1 (qf (o_buildSliceE (sz:=3) (zs:=[.int .i64 0,.int .i64 0,.int .i64 0]) (r:=[(0,.tmp 15)]) (l:=[_,_,_]) underlying220 kr kr kr kr rfl rfl (.agg rfl .t kr kr .nil) rfl) r1 qz (qf (o_callRowN 1 (ZuK v l (lowK ZaT (ZaT e) l) e hll (Zpn l)) func197 rfl kr (Args.three .t .t (.conv .t (Ent.arrSl (R:=Zat) (l:=[e]) rfl))) pvOne1) r3 r1 (qO rr qZ)))))) V [4] [1,0] (fun _=>rfl) (fun _=>rfl) fun τ a w F G=>?_
 try dsimp only [RS.sub,SF.sub,CF.sub,csub,Anc.sub,List.map,Ze,xL,xM,Nat.reduceAdd,xD,xE,xT,xU,xC,xN,zCF,ldSF,Zat,Zas,rInt,Zak] at G
 generalize τ 17=v17 at G
 have hg:insE l e=l.take (lowK ZaT (ZaT e) l) ++ [e] ++ l.drop (lowK ZaT (ZaT e) l):=rfl
 refine Za (Yh ?_)
 have G:=G.turn 1 rfl (r':=RS.hp (ZA 217 3 Zat (insE l e) v17)) (fun _ _ _ _ h=>by rw [hg];exact h)
 refine Z8 (h':=fun v=>ZA 217 3 Zat (insE l e) v) hG G rfl (.tmp rfl .nil) (.one .one) rfl
def Zvi (L:List (List Z5)):Prop:=∀ l ∈ L,l.length≤1000000∧Zgc ZaT l ∧ ∀ e ∈ l,okE e
def ZpM (O:List (List Z5)) (x:Zw):Bool:=ZaD O.length x && isK ZaT (ZaT (endO x)) (Nn O x.src.toNat)
theorem ZM {n:Nat} {x:Zw} : ZaD n x=true ↔ (0≤x.src∧x.src<n)∧(0≤x.dst∧x.dst<n)∧(1≤x.kind∧x.kind≤3)∧0≤x.label∧x.label≤1048575:=by
 unfold ZaD
 simp only [Yx,Yq]
 constructor
 ·rintro ⟨⟨⟨⟨⟨a,b⟩,c⟩,d⟩,e⟩,f⟩;exact ⟨a,b,⟨c,d⟩,e,f⟩
 ·rintro ⟨a,b,⟨c,d⟩,e,f⟩;exact ⟨⟨⟨⟨⟨a,b⟩,c⟩,d⟩,e⟩,f⟩
theorem endO_ok {n:Nat} {x:Zw} (h:ZaD n x=true) (hn:n≤4096):okE (endO x):=by
 obtain ⟨h1,h2,h3,h4,h5⟩:=ZM.1 h
 exact ⟨⟨h4,h5⟩,h2.1,show x.dst≤4095 by omega⟩
theorem endI_ok {n:Nat} {x:Zw} (h:ZaD n x=true) (hn:n≤4096):okE (endI x):=by
 obtain ⟨h1,h2,h3,h4,h5⟩:=ZM.1 h
 exact ⟨⟨h4,h5⟩,h1.1,show x.src≤4095 by omega⟩
theorem ZtM (O I:List (List Z5)) (m:Nat) (x:Zw) (hO:Zvi O) (hn:O.length≤4096):FnP prog 155 [Zel O I m,.agg (Zak x)] (.bool (ZpM O x)):=by
 refine FnP.mk func155 rfl ntmps155 rfl fun B a w F V hfr G=>Ya ?_
 refine Zb G (qx 101 r1 qB) V [4,3,0] [101,0] (fun _=>rfl) (fun _=>rfl) fun τ a w F G=>?_
 try dsimp only [RS.sub,SF.sub,CF.sub,csub,Anc.sub,List.map,zCF,Zat,Zas,rInt,Zak] at G
 generalize τ 3=v3 at G
 refine Za (Ya (Ya (rZ G (qR rr (qe 4 101 r1 r1 (qf (oP (ZiE O I m x) func154 (Args.two .t (.pagg .t))) r2 qz (qf (o_not .t) r1 qz qZ)))) V [12,4,3,0] [101,0] fun G=>?_)))
 refine Zc G rfl (fun hc0=>?_) (fun hc0=>?_)
 ·have hrf:ZaD O.length x=false:=by simpa using hc0
  have hg:false=ZpM O x:=by unfold ZpM;rw [hrf];rfl
  refine Ya (rZ G qB V [4,3,0] [101,0] fun G=>(Yh (Zk ?_)))
  refine Zo hfr G rfl rfl rfl (.bool hg)
 have hrt:ZaD O.length x=true:=by simpa using hc0
 obtain ⟨hs1,hs2⟩:=(ZM.1 hrt).1
 have hg:isK ZaT (ZaT (endO x)) (Nn O x.src.toNat)=ZpM O x:=by unfold ZpM;rw [hrt,Ybp]
 refine Ye (Za (Ya (Zb G (qe 4 101 r1 r1 (qf (oP (Zkn x) func156 (Args.one (.pagg .t))) r1 qz (qR rr (qf (Zh .t rfl) r1 qz (qf (Zh .t rfl) r1 qz (qf (oH [.int .i64 0,.int .i64 0,.int .i64 0] 102) trivial qz (qf (oH [.int .i64 0,.int .i64 0,.int .i64 0] 103) trivial qz (qf (oA 3 102 .same (.conv .t .agg)) r2 r1 (qf (oA 3 103 .same (.conv .t .agg)) r2 r1 qZ))))))))) V [5,4,3,0] [102,101,0] (fun _=>rfl) (fun _=>rfl) fun τ a w F G=>?_)))
 try dsimp only [RS.sub,SF.sub,CF.sub,csub,Anc.sub,List.map,Ze,xL,xM,Nat.reduceAdd,xD,xE,xT,xU,xC,xN,zCF,ldSF,Zat,Zas,rInt,Zak] at G
 generalize τ 5=v5 at G
 generalize τ 6=v6 at G
 refine Za (Ya (Zx G (qR rr (qf (ZC .t) r1 qz (qf (oG 0 .t) r1 qz (qf (oR false 1 .t) r1 qz (qg 0 101 r1 r1 (qa 101 r1 r1 (qy 1 underlying213 r2 (qf (oR false 1 .t) r1 qz (qe 3 102 r1 r1 (qf (oP (ZuB (Nn O x.src.toNat) (endO x) (ZaT (endO x)) (hO _ (nth_mem ow)).1 (hO _ (nth_mem ow)).2.1 196 f196 [] func196 rfl kr (fun z hz=>Zss z (endO x) ((hO _ (nth_mem ow)).2.2 z hz) (endO_ok hrt hn))) func195 (Args.three .t (.pagg .t) (.conv .f (Ent.fnClos)))) r2 qz (qR rr (qf (Zh .t rfl) r1 qz (qf (Zh .t rfl) r1 qz (qO rr (qO rr qZ))))))))))))))) V [8,4] [0] rfl rfl fun a w F G=>?_))
 try dsimp only [List.map,xD,xE,xT,xU,ldSF,Zat,Zas,rInt,Zak] at G
 try simp only [Yb] at G
 refine Za (Ya (rZ G (qR rr (qO rr qZ)) V [4] [0] fun G=>Yh ?_))
 refine Zo hfr G rfl rfl rfl (.bool hg)
theorem Zvs {α:Type} [Inhabited α] {l:List α} {k j:Nat} {v:α} (h:j<l.length):Nn (l.set k v) j=if k=j then v else Nn l j:=by
 rw [nth_eq (by simpa using h),YbS]
 split
 ·rfl
 ·exact (nth_eq h).symm
theorem Zlv {hs:List Value} {L:List (List Z5)} {k:Nat} {v:Value} {l:List Z5} (h2:hs.length=L.length):ZeF (hs.set k v) (L.set k l)=(ZeF hs L).set k (v,l):=by
 apply Ya0 (by simp [ZeF])
 intro j h3 h4
 have hj:j<hs.length:=by simpa [ZeF] using h3
 simp only [ZeF,List.getElem_map,List.getElem_range,YbS]
 rw [Zvs hj,Zvs ow]
 split <;> rfl
def ZeA (O I:List (List Z5)) (m:Nat) (x:Zw):List (List Z5)×List (List Z5)×Nat×Int:=
 if ZaD O.length x then if ZpM O x then (O,I,m,4) else (O.set x.src.toNat (insE (Nn O x.src.toNat) (endO x)),I.set x.dst.toNat (insE (Nn I x.dst.toNat) (endI x)),m+1,0) else (O,I,m,1)
theorem ZnJ (b:Nat) (O I:List (List Z5)) (m:Nat) (x:Zw) (hO:Zvi O) (hI:Zvi I) (hOI:I.length=O.length) (hn:O.length≤4096) (hm:m<1000000):FnG prog 116 1 [.is (Value.pointer (some { block:=b,off:=0 })),.agg (Zak x)] [ZmQ O I m (Value.pointer (some { block:=b,off:=0 }))] (.int .i64 (ZeA O I m x).2.2.2) (fun _=>[ZmQ (ZeA O I m x).1 (ZeA O I m x).2.1 (ZeA O I m x).2.2.1 (Value.pointer (some { block:=b,off:=0 }))]):=by
 refine FnG.mk func116 rfl ntmps116 rfl kr fun B F0 a w F V hG G=>Ya ?_
 refine Zb G (qx 101 r1 (qI qZ)) V [4,3,0] [101,1,0] (fun _=>rfl) (fun _=>rfl) fun τ a w F G=>?_
 try dsimp only [RS.sub,SF.sub,CF.sub,csub,Anc.sub,List.map,zCF,Zat,Zas,rInt,Zak] at G
 generalize τ 3=v3 at G
 refine Za (Ya (Yg (Ya (rZ G (qR rr (qe 4 101 r1 r1 (qf (OpC.lend 1 [8] ZeR (oP (ZiE O I m x) func154 (Args.two .t (.pagg .t))) ⟨rfl,tv,tv⟩ (.pv (fun _ _ _ _ h=>h)) trivial (by rfl)) r2 r1 (qf (o_not .t) r1 qz (qO rr qZ))))) V [7,4,3,0] [101,1,0] fun G=>?_))))
 refine Zc G rfl (fun hc0=>?_) (fun hc0=>?_)
 ·have hrf:ZaD O.length x=false:=by simpa using hc0
  have hg:ZeA O I m x=(O,I,m,1):=by unfold ZeA;rw [hrf];rfl
  refine Ya (rZ G (qI qZ) V [4,3,0] [101,1,0] fun G=>(Yh (Zu (Zk ?_))))
  rw [hg]
  refine Zac hG G rfl (.tmp rfl .nil) (.one .refl) rfl
 have hrt:ZaD O.length x=true:=by simpa using hc0
 obtain ⟨⟨hs1,hs2⟩,⟨hd1,hd2⟩,_⟩:=ZM.1 hrt
 refine Ya (rZ G (qR rr (qe 4 101 r1 r1 (qf (OpC.lend 1 [13] ZeR (oP (ZtM O I m x hO hn) func155 (Args.two .t (.pagg .t))) ⟨rfl,tv,tv⟩ (.pv (fun _ _ _ _ h=>h)) trivial (by rfl)) r2 r1 (qO rr qZ)))) V [12,4,3,0] [101,1,0] fun G=>?_)
 refine Zc G rfl (fun hc1=>?_) (fun hc1=>?_)
 ·have hht:ZpM O x=true:=hc1
  have hg:ZeA O I m x=(O,I,m,4):=by unfold ZeA;rw [hrt,hht];rfl
  refine Ya (rZ G (qI qZ) V [4,3,0] [101,1,0] fun G=>(Yh (Zu (Zk ?_))))
  rw [hg]
  refine Zac hG G rfl (.tmp rfl .nil) (.one .refl) rfl
 have hhf:ZpM O x=false:=hc1
 have hg:ZeA O I m x=(O.set x.src.toNat (insE (Nn O x.src.toNat) (endO x)),I.set x.dst.toNat (insE (Nn I x.dst.toNat) (endI x)),m+1,0):=by unfold ZeA;rw [hrt,hhf];rfl
 refine Ye (Zj (Za (Ya (Zb G (qe 4 101 r1 r1 (qf (oP (Zkn x) func156 (Args.one (.pagg .t))) r1 qz (qR rr (qf (Zh .t rfl) r1 qz (qf (Zh .t rfl) r1 qz (qf (oH [.int .i64 0,.int .i64 0,.int .i64 0] 102) trivial qz (qf (oH [.int .i64 0,.int .i64 0,.int .i64 0] 103) trivial qz (qf (oA 3 102 .same (.conv .t .agg)) r2 r1 (qf (oA 3 103 .same (.conv .t .agg)) r2 r1 qZ))))))))) V [6,5,4,3,0] [103,102,101,1,0] (fun _=>rfl) (fun _=>rfl) fun τ a w F G=>?_))))
 try dsimp only [RS.sub,SF.sub,CF.sub,csub,Anc.sub,List.map,Ze,xL,xM,Nat.reduceAdd,xD,xE,xT,xU,xC,xN,zCF,ldSF,Zat,Zas,rInt,Zak] at G
 generalize τ 5=v5 at G
 generalize τ 6=v6 at G
 obtain ⟨ov,G⟩:=G.open_ex 1 rfl
 obtain ⟨iv,G⟩:=G.open_ex 1 rfl
 obtain ⟨F,G⟩:=G.peel 1 2 rfl rfl
 obtain ⟨F,G⟩:=G.peel 1 3 rfl rfl
 obtain ⟨F,G⟩:=G.peel 1 4 rfl rfl
 obtain ⟨hs,G⟩:=G.open_ex 3 rfl
 obtain ⟨hl1,G⟩:=G.open_and 3 rfl
 obtain ⟨F,G⟩:=G.peel 3 5 rfl rfl
 obtain ⟨F,G⟩:=G.peel 3 6 rfl rfl
 obtain ⟨js,G⟩:=G.open_ex 4 rfl
 obtain ⟨hl2,G⟩:=G.open_and 4 rfl
 obtain ⟨F,G⟩:=G.peel 4 7 rfl rfl
 obtain ⟨F,G⟩:=G.peel 4 8 rfl rfl
 obtain ⟨F,G⟩:=G.nM [6,5,4,3,0] [103,102,101,8,7,6,5,2,0]
 obtain ⟨F,G⟩:=G.takeAt ZmS 6 61 (x.src.toNat) rfl rfl (Zpr ow)
 replace G:=G.turn 61 rfl (r':=.ob (.val (Nn hs x.src.toNat)) (ZA 217 3 Zat (Nn O x.src.toNat))) (fun _ _ _ _ h=>h)
 obtain ⟨F,G⟩:=G.nM [6,5,4,3,0] [103,102,101,61,8,7,6,5,2,0]
 obtain ⟨F,G⟩:=G.takeAt ZmS 8 62 (x.dst.toNat) rfl rfl (Zpr ow)
 replace G:=G.turn 62 rfl (r':=.ob (.val (Nn js x.dst.toNat)) (ZA 217 3 Zat (Nn I x.dst.toNat))) (fun _ _ _ _ h=>h)
 obtain ⟨F,G⟩:=G.nM [6,5,4,3,0] [103,102,101,62,61,8,7,6,5,2,0]
 refine Za (Ya (ZaI G (qR rr (qf (o_nilCheck 2 .is (by rfl)) r1 r1 (qf (oF 0 2 .adr) r1 r1 (qa 2 r1 r1 (qg 0 101 r1 r1 (qa 101 r1 r1 (qR rr (qf (o_nilCheck 2 .is (by rfl)) r1 r1 (qf (oF 0 2 .adr) r1 r1 (qa 2 r1 r1 (qg 0 101 r1 r1 (qa 101 r1 r1 (qf (o_indexAddr_row (sz:=1) 5 (.mk underlying213 kr) .is .t ow ow (by rfl)) r2 r1 (qf (Zv (ag:=false) (sz':=1) (sz:=1) 5 .t (by intro x;rfl) ow kr kr kr) r1 r1 (qe 3 102 r1 r1 (qf (o_callRowN 61 (putE_c _ (Nn O x.src.toNat) (endO x) (hO _ (nth_mem ow)).1 (hO _ (nth_mem ow)).2.1 (hO _ (nth_mem ow)).2.2 (endO_ok hrt hn)) func157 rfl kr (Args.two .t (.pagg .t)) pvOne1) r2 r1 (qf (o_indexAddr_row (sz:=1) 5 (.mk underlying213 kr) .is .t ow ow (by rfl)) r2 r1 (qf (Zk5 (i:=36) (j:=36) (by rfl) (fun z=>ZF (R:=rV) (sz:=1) (v:=z) 5 .t (by intro x;rfl) ow .t rfl one_is kr)) r2 r1 qZ)))))))))))))))))) V [6,4,3,0] [103,101,62,61,8,7,6,5,2,0] (fun _=>rfl) (fun _=>rfl) fun τ a w F G=>?_))
 try dsimp only [RS.sub,SF.sub,CF.sub,csub,Anc.sub,List.map,Ze,xL,xM,Nat.reduceAdd,xD,xE,xT,xU,xC,xN,zCF,ldSF,Zat,Zas,rInt,Zak] at G
 generalize τ 36=v36 at G
 try simp only [Yb] at G
 replace G:=G.turn 61 rfl (r':=RS.hp (ZmS (v36,insE (Nn O x.src.toNat) (endO x)))) (fun _ _ _ _ h=>h)
 obtain ⟨F,G⟩:=G.putAt ZmS (L:=ZeF hs O) (x:=(v36,insE (Nn O x.src.toNat) (endO x))) 6 61 (x.src.toNat) (by rw [Zls];omega) rfl rfl rfl
 rw [← Zlv ow] at G
 obtain ⟨F,G⟩:=G.nM [6,4,3,0] [103,101,62,8,7,6,5,2,0]
 refine Za (Ya (ZaI G (qR rr (qf (o_nilCheck 2 .is (by rfl)) r1 r1 (qf (oF 1 2 .adr) r1 r1 (qa 2 r1 r1 (qg 1 101 r1 r1 (qa 101 r1 r1 (qR rr (qf (o_nilCheck 2 .is (by rfl)) r1 r1 (qf (oF 1 2 .adr) r1 r1 (qa 2 r1 r1 (qg 1 101 r1 r1 (qa 101 r1 r1 (qf (o_indexAddr_row (sz:=1) 7 (.mk underlying213 kr) .is .t ow ow (by rfl)) r2 r1 (qf (Zv (ag:=false) (sz':=1) (sz:=1) 7 .t (by intro x;rfl) ow kr kr kr) r1 r1 (qe 3 103 r1 r1 (qf (o_callRowN 62 (putE_c _ (Nn I x.dst.toNat) (endI x) (hI _ (nth_mem ow)).1 (hI _ (nth_mem ow)).2.1 (hI _ (nth_mem ow)).2.2 (endI_ok hrt hn)) func157 rfl kr (Args.two .t (.pagg .t)) pvOne1) r2 r1 (qf (o_indexAddr_row (sz:=1) 7 (.mk underlying213 kr) .is .t ow ow (by rfl)) r2 r1 (qf (Zk5 (i:=53) (j:=53) (by rfl) (fun z=>ZF (R:=rV) (sz:=1) (v:=z) 7 .t (by intro x;rfl) ow .t rfl one_is kr)) r2 r1 qZ)))))))))))))))))) V [4,0] [62,8,7,6,5,2,0] (fun _=>rfl) (fun _=>rfl) fun τ a w F G=>?_))
 try dsimp only [RS.sub,SF.sub,CF.sub,csub,Anc.sub,List.map,Ze,xL,xM,Nat.reduceAdd,xD,xE,xT,xU,xC,xN,zCF,ldSF,Zat,Zas,rInt,Zak] at G
 generalize τ 53=v53 at G
 try simp only [Yb] at G
 replace G:=G.turn 62 rfl (r':=RS.hp (ZmS (v53,insE (Nn I x.dst.toNat) (endI x)))) (fun _ _ _ _ h=>h)
 obtain ⟨F,G⟩:=G.putAt ZmS (L:=ZeF js I) (x:=(v53,insE (Nn I x.dst.toNat) (endI x))) 8 62 (x.dst.toNat) (by rw [Zls];omega) rfl rfl rfl
 rw [← Zlv ow] at G
 obtain ⟨F,G⟩:=G.nM [4,0] [8,7,6,5,2,0]
 refine Za (Ya (rZ G (qR rr (qf (o_nilCheck 2 .is (by rfl)) r1 r1 (qf (oF 2 2 .adr) r1 r1 (qa 2 r1 r1 (qp r1 (qf (o_nilCheck 2 .is (by rfl)) r1 r1 (qf (oF 2 2 .adr) r1 r1 (qf (ZaZ 2 .adr .t one_int kr kr) r2 r1 qZ)))))))) V [4] [8,7,6,5,2,0] fun G=>Ya ?_))
 refine rZ G (qI qZ) V [4] [8,7,6,5,2,0] fun G=>Yh ?_
 rw [Zd ow] at G
 have hl3:(hs.set x.src.toNat v36).length=(O.set x.src.toNat (insE (Nn O x.src.toNat) (endO x))).length:=by simp [hl1]
 have hl4:(js.set x.dst.toNat v53).length=(I.set x.dst.toNat (insE (Nn I x.dst.toNat) (endI x))).length:=by simp [hl2]
 have G:=G.fresh 3 rfl
 have G:=G.fresh 4 rfl
 have G:=G.fresh 1 rfl
 obtain ⟨F,G⟩:=G.push 3 6 rfl rfl rfl kr
 obtain ⟨F,G⟩:=G.push 3 5 rfl rfl rfl kr
 obtain ⟨F,G⟩:=G.push 4 8 rfl rfl rfl kr
 obtain ⟨F,G⟩:=G.push 4 7 rfl rfl rfl kr
 have G:=G.turn 3 rfl (r':=RS.hp (Zjo _ ov)) (fun _ _ _ _ h=>⟨_,hl3,h⟩)
 have G:=G.turn 4 rfl (r':=RS.hp (Zjo _ iv)) (fun _ _ _ _ h=>⟨_,hl4,h⟩)
 obtain ⟨F,G⟩:=G.push 1 4 rfl rfl rfl kr
 obtain ⟨F,G⟩:=G.push 1 3 rfl rfl rfl kr
 obtain ⟨F,G⟩:=G.push 1 2 rfl rfl rfl kr
 have G:=G.turn 1 rfl (r':=RS.hp (ZmQ (ZeA O I m x).1 (ZeA O I m x).2.1 (ZeA O I m x).2.2.1 (Value.pointer (some { block:=b,off:=0 })))) (fun _ _ _ _ h=>by rw [hg];exact ⟨_,_,h⟩)
 refine Zac hG G rfl (.tmp rfl .nil) (.one (.int (by rw [hg]))) rfl
def adjO (O:List (List Z5)) (mask u:Int):List Int:=if 0≤u∧u<O.length then Zbq (((Nn O u.toNat).filter fun e=>ofB mask e.kind).map Z5.node) else []
theorem dgNodesOf_c (l:List Z5) (mask:Int) (hl:l.length≤1000000):FnP prog 198 [.sl Zat l,.int .i64 mask] (.sl rInt (Zbq ((l.filter fun e=>ofB mask e.kind).map Z5.node))):=by
 refine FnP.mk func198 rfl ntmps198 rfl fun B a w F V hfr G=>Ya ?_
 refine rZ G (qC qZ) V [4,1,0] [0] fun G=>Ya ?_
 refine rZ G (qC qZ) V [5,4,1,0] [0] fun G=>(Ya (Ya ?_))
 refine rZ G (qR rr (qu underlying220 r1 (qJ qZ))) V [10,9,8,5,4,1] [0] fun G=>Yg ?_
 replace G:=G.fresh 50 rfl
 replace G:=G.turn 50 rfl (ZaA (T:=3) (sz:=1) (R:=rInt))
 refine Zl (σ:=(Nat)×(Value)×(List Int)) [1,4,8,9] [0] (fun s=>[(10,.pv (.int .i64 (s.1:Int))),(5,.pv (.is s.2.1))]) (fun s=>[(50,.ob (.val s.2.1) (ZA 3 1 rInt s.2.2))]) (fun s=>s.1≤l.length∧(s.2.2=(((l.take s.1).filter fun e=>ofB mask e.kind).map Z5.node))) (fun s=>l.length - s.1) ((0),(.slice none 0 0),([])) G ⟨rfl,rfl,rfl,rfl,rfl,rfl,tv⟩ ⟨rfl,rfl,tv⟩ ⟨Yv _,rfl⟩ ?_
 clear G;intro s a w F hC G
 obtain ⟨i,v,out⟩:=s
 try dsimp only at hC
 obtain ⟨F,G⟩:=G.nM [10,9,8,5,4,1] [50,0]
 try dsimp only at G
 obtain ⟨hi,hq⟩:=hC
 have hol:out.length≤i:=by rw [hq,YM];exact Y5 (Yai _ _) (by rw [Yj];omega)
 refine Ya (rZ G (qL r2) V [11,10,9,8,5,4,1] [50,0] fun G=>Ya ?_)
 refine Zc G rfl (fun hc0=>?_) (fun hc0=>?_)
 ·have hil:i<l.length:=by simp at hc0;omega
  refine Ye (Za (Ya (Yg (Ya (Zb G (qy 3 underlying220 r2 (qf (oR true 3 .t) r1 qz (qf (oH [.int .i64 0,.int .i64 0,.int .i64 0] 101) trivial qz (qS 3 101 r2 r1 qZ)))) V [10,9,8,7,5,4,1] [101,50,0] (fun _=>rfl) (fun _=>rfl) fun τ a w F G=>?_)))))
  try dsimp only [RS.sub,SF.sub,CF.sub,csub,Anc.sub,List.map,Ze,xL,xM,Nat.reduceAdd,xD,xE,xT,xU,xC,xN,zCF,ldSF,Zat,Zas,rInt,Zak] at G
  generalize τ 7=v7 at G
  try simp only [Yb] at G
  refine Za (Ya (rZ G (qR rr (qg 0 101 r1 r1 (qa 101 r1 r1 (qf (oP (Zsr mask (Nn l i).kind) func210 (Args.two .t .t)) r2 qz qZ)))) V [17,10,9,8,7,5,4,1] [101,50,0] fun G=>?_))
  refine Zc G rfl (fun hc1=>?_) (fun hc1=>?_)
  ·have hBq:ofB mask (Nn l i).kind=true:=by simpa using hc1
   refine Zb G (qR rr (qg 2 101 r1 r1 (qa 101 r1 r1 (qf (o_buildSliceE (sz:=1) (zs:=[.int .i64 0]) (r:=[(0,.tmp 20)]) (l:=[_]) underlying45 kr kr kr kr rfl rfl (.one rfl .t one_int kr .nil) rfl) r1 qz (qf (ZW (sz:=1) (bs:=8) 50 (.mk' underlying45 kr kr) (by intro x;rfl) .is (.arr (l':=[_]) .t) (by simp only [Yd,Yl,Yy,Yj,YH];omega) (by decide)) ⟨rfl,rfl,tv⟩ ⟨rfl,tv⟩ (qO rr qZ)))))) V [10,9,8,5,4,1] [101,50,0] (fun _=>rfl) (fun _=>rfl) fun τ a w F G=>?_
   try dsimp only [RS.sub,SF.sub,CF.sub,csub,Anc.sub,List.map,Ze,xL,xM,Nat.reduceAdd,xD,xE,xT,xU,xC,xN,zCF,ldSF,Zat,Zas,rInt,Zak] at G
   generalize τ 22=v22 at G
   refine Zj (Za (rZ G (qp r1 (qR rr qZ)) V [10,9,8,5,4,1] [101,50,0] fun G=>?_))
   replace G:=G.ent (i:=10) (s':=.pv (.int .i64 ((i+1:Nat):Int))) rfl (.int (Zd ow))
   obtain ⟨F,G⟩:=G.nM [9,8,4,1,5,10] [0,50]
   exact ⟨((i+1),_,_),F,⟨by omega,(by rw [Zr hil,Yae,YQ,← hq];simp [hBq])⟩,G,by omega⟩
  have hBq:ofB mask (Nn l i).kind=false:=by simpa using hc1
  refine Ye (Zj (Za (rZ G (qp r1 (qR rr qZ)) V [10,9,8,5,4,1] [101,50,0] fun G=>?_)))
  replace G:=G.ent (i:=10) (s':=.pv (.int .i64 ((i+1:Nat):Int))) rfl (.int (Zd ow))
  obtain ⟨F,G⟩:=G.nM [9,8,4,1,5,10] [0,50]
  exact ⟨((i+1),_,_),F,⟨by omega,(by rw [Zr hil,Yae,YQ,← hq];simp [hBq])⟩,G,by omega⟩
 have hil:i=l.length:=by simp at hc0;omega
 refine Yw (Zi (Zi (Zn (Za (Ya (rZ G (qR rr (qf (Zbf 50 (Zjq _ out ow) func92 rfl kr (Args.one .t)) r1 r1 qZ)) V [5,4] [50,0] fun G=>Ya ?_))))))
 refine Zb G (qR rr (qf (o_callRowN 50 (Zj2 _ _ (by rw [Ybr];omega)) func179 rfl kr (Args.one .t) pvOne1) r1 r1 (qO rr qZ))) V [4] [50,0] (fun _=>rfl) (fun _=>rfl) fun τ a w F G=>?_
 try dsimp only [RS.sub,SF.sub,CF.sub,csub,Anc.sub,List.map,Zat,Zas,rInt,Zak] at G
 generalize τ 27=v27 at G
 refine Za (Yh ?_)
 obtain ⟨F,G⟩:=G.give 50 4 rfl rfl
 refine Zo hfr G rfl rfl rfl (.sl (by rw [Zc2,Zdq,hq,hil,YD]))
theorem ZqU (O I:List (List Z5)) (m:Nat) (u mask:Int) (hO:∀ l ∈ O,l.length≤1000000):FnP prog 160 [Zel O I m,.int .i64 u,.int .i64 mask] (.sl rInt (adjO O mask u)):=by
 refine FnP.mk func160 rfl ntmps160 rfl fun B a w F V hfr G=>Ya ?_
 refine rZ G (qC qZ) V [6,2,1,0] [0] fun G=>(Ya (Ya ?_))
 refine rZ G (qR rr (qR rr (qf (oP (ZdE O I m u) func194 (Args.two .t .t)) r2 qz (qf (o_not .t) r1 qz qZ)))) V [10,6,2,1,0] [0] fun G=>?_
 refine Zc G rfl (fun hc0=>?_) (fun hc0=>?_)
 ·have hg:[] = adjO O mask u:=by unfold adjO;rw [Yc (by have h9:=hc0;simp at h9;omega)]
  refine Ya (rZ G (qC qZ) V [6,2,1,0] [0] fun G=>(Yh (Zk ?_)))
  refine Zo hfr G rfl rfl rfl (.trans .nilSl (.sl hg))
 have hth:0≤u∧u<O.length:=by simpa using hc0
 have hg:(Zbq (((Nn O u.toNat).filter fun e=>ofB mask e.kind).map Z5.node))=adjO O mask u:=by unfold adjO;rw [Yf hth]
 refine Ye (Za (Ya (Zf G (qR rr (qf (ZC .t) r1 qz (qf (oG 0 .t) r1 qz (qf (oR false 1 .t) r1 qz (qR rr (qf (o_indexAddr_sl (sz:=1) (.mk underlying213 kr) (by intro x;rfl) .t .t (by exact hth.1) (by exact hth.2)) r2 qz (qf (oR false 1 .t) r1 qz (qR rr (qf (oP (dgNodesOf_c (Nn O u.toNat) mask (hO _ (nth_mem ow))) func198 (Args.two .t .t)) r2 qz (qO rr qZ)))))))))) V [6] [0] rfl rfl fun a w F G=>?_)))
 try simp only [Yb] at G
 refine Za (Yh (Zo hfr G rfl rfl rfl (.sl hg)))
def Zdf:Zt:=⟨[],[]⟩
theorem Z7 {g:Zt} (h:ZQ g):Zgc TxD.id g.txs∧Zgc OrdD.key g.orders:=by
 constructor
 ·have hi:Zdg (g.txs.map TxD.id):=Ze7 fun i hi h0=>by
   have hi':i<g.txs.length:=by simpa using hi
   rw [Zcx ow,Zcx hi']
   exact (h.2.1 i hi').1 h0
  rw [ZY]
  exact Ybf.1 hi
 ·have h2:=(Zc6 g).2 h.2.2
  have hi:Zdg (g.orders.map OrdD.key):=Ze7 fun i hi h0=>by
   have hi':i<g.orders.length:=by simpa using hi
   rw [Zcx ow,Zcx hi']
   exact (h2.2 i hi').1 h0
  rw [ZY]
  exact Ybf.1 hi
theorem Zfw {α:Type} [Inhabited α] {κ:α→Int} {k:Int} {l:List α} (hs:Zgc κ l) (h:isK κ k l=true):lowK κ k l<l.length∧κ (Nn l (lowK κ k l))=k:=by
 obtain ⟨x,hx,hk⟩:=YaV.1 h
 obtain ⟨q,hq,e⟩:=Yaf hx
 have hk':κ (Nn l q)=k:=by rw [nth_eq hq,e];simpa using hk
 have hl:=Zd8 (κ:=κ) (k:=k) (l:=l) (i:=q) (Nat.le_of_lt hq) (fun p hp=>by have:=hs p q hp hq;omega) (fun p hp hp2=>by have:=Zcp hs hp hp2;omega)
 rw [hl]
 exact ⟨hq,hk'⟩
end Go.Proofs.YtlkpllemoepamaaGreat
