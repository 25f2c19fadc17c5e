/- Texts put together. No condition beyond those that each theorem says. -/
import Derived.Test.YtlkpllemoepamaaGreatJ16
import Derived.Test.YtlkpllemoepamaaGreatJ12
import Derived.Test.YtlkpllemoepamaaGreatJ7
import Derived.Test.YtlkpllemoepamaaGreatJ2
import Derived.Test.YtlkpllemoepamaaGreatJ3
import Derived.Test.YtlkpllemoepamaaGreatJ1
import Derived.Test.YtlkpllemoepamaaGreatJ0
namespace Go.Proofs.YtlkpllemoepamaaGreat
open Go Go.Gm Tryz
set_option linter.unusedVariables false
set_option linter.unusedSimpArgs false
set_option maxHeartbeats 4000000
set_option maxRecDepth 8000
theorem ZpQ {A:Zx→Prop} {m:Zx→Bool} {κ:Zx→Int} {i:Int} {dv ev:List Int} {out:Int→List Zx} (ho:∀ u x,x ∈ out u ↔ A x∧x.src=u) (hs:∀ u,(out u).Pairwise fun a b=>κ a<κ b) (hL:ZcF A m i dv ev) {need:Bool} {way:List Zx} (hb:ZdG A m κ need i way)
  {b:Int} (hbv:Z0 (ZG m dv ev need) (out i)=b) :
  (¬ (0<b∧(way = []∨b<way.length))→ZdG A m κ need (i+1) way) ∧
  (0<b∧(way = []∨b<way.length)→Zch A m κ i b.toNat need [] i b.toNat need∧Zbb out (ZG m dv ev) m i b.toNat i need≠[]∧ZdG A m κ need (i+1) (Zbb out (ZG m dv ev) m i b.toNat i need)∧(Zbb out (ZG m dv ev) m i b.toNat i need).length=b.toNat):=by
 have hsh:=ZjU (ZG m dv ev need) (out i)
 rw [hbv] at hsh
 obtain ⟨s1,s2⟩:=hL.short (ho i) hsh
 have h0:=hsh.1
 constructor
 ·intro hn
  refine hb.keep (fun hw w hc=>?_) fun hw w hc=>?_
  ·exact s1 (by rcases Int.lt_or_eq_of_le h0 with k | k;exact absurd ⟨k,.inl hw⟩ hn;exact k.symm) w hc.1 hc.2.1 hc.2.2
  ·by_cases k:0<b
   ·have:=(s2 k).2 w hc.1 hc.2.1 hc.2.2
    have:¬ b<way.length:=fun h=>hn ⟨k,.inr h⟩
    omega
   ·exact absurd hc.2.2 (s1 ow w hc.1 hc.2.1)
 ·rintro ⟨k,hw⟩
  have hnear:=s2 k
  have hk:0<b.toNat:=by omega
  obtain ⟨w1,w2,w3⟩:=Zsi ho hs hL hk hnear
  refine ⟨Zch.start hk hnear,w1.1,hb.turn w1 (fun w hc=>?_) (fun w hc hl=>w3 w hc ow) fun hne=>?_,w2⟩
  ·rw [w2];exact hnear.2 w hc.1 hc.2.1 hc.2.2
  ·rw [w2]
   rcases hw with hw | hw
   ·exact absurd hw hne
   ·omega
theorem ZqF {m:Zx→Bool} {dv ev:List Int} {need:Bool} {x:Zx} {N:Int} (hx:0≤x.dst∧x.dst<dv.length∧x.dst<ev.length) (h1:∀ z ∈ dv,-1≤z∧z≤N) (h2:∀ z ∈ ev,-1≤z∧z≤N) : -1≤ZG m dv ev need x∧ZG m dv ev need x≤N:=by
 unfold ZG
 split
 ·rw [ZaR hx.1];exact h2 _ (nth_mem ow)
 ·rw [ZaR hx.1];exact h1 _ (nth_mem ow)
theorem Zr2 {n:Nat} {d:List Int} (hd:d.length=2*n) {z:Int} (h:z ∈ ZaU n d):z ∈ d:=by
 obtain ⟨u,h1,rfl⟩:=Yv.1 h
 exact nth_mem (by have:=Ya7.1 h1;omega)
theorem ZsA {A:Zx→Prop} {i:Int} {a b:Int} : ∀ {w:List Zx},Zem A i a w b → ∀ x ∈ w,A x
 | y :: w,h,x,hx=>by
  rcases Yj.1 hx with rfl | hx
  ·exact h.1
  ·exact ZsA h.2.2.2 x hx
theorem Zms {l:List Zg} : (Zab l).length≤l.length:=by
 have h:=Zfq (l.map Zg.key)
 rwa [YH] at h
def ZsC (lf:List Zg) (mk:Int) (E:List Zx):Prop:=E.length≤1000000∧(∀ x,(x ∈ E∧ofB mk x.kind=true) ↔ ∃ e,e ∈ lf∧Zb7 (rkI (ZQ lf)) (rkI (Zab lf)) e=x)∧(∀ (ms:Int) (need:Bool) (j:Int) (w:List Zx),CwA (fun x=>x ∈ E∧ofB mk x.kind=true) (fun y=>ofB ms y.kind) need j w→0≤j)∧ZcP (· ∈ lf) (rkI (ZQ lf)) (rkI (Zab lf)) (Zjd (ZQ lf) (Zab lf))
theorem Zn0 {l lf:List Zg} {mk:Int} (hlf:l.filter (kindOk mk)=lf) (hll:lf.length≤100000) (hn:(ZQ lf).length≤4096) (hk:(Zab lf).length≤100000) :
  ∃ E,ZsC lf mk E∧ZbN (ZQ lf).length E (ZX (ZQ lf).length (lf.map (ZcT (ZQ lf) (Zab lf)))).1 (ZX (ZQ lf).length (lf.map (ZcT (ZQ lf) (Zab lf)))).2.1:=by
 have hr:=Zm5 (l:=lf) hn ow
 have i1:Zdu (ZQ lf):=(ZV _).1
 have hright:∀ e ∈ lf,ZaK (ZQ lf).length (ZcT (ZQ lf) (Zab lf) e)=true∧ofB mk e.kind=true:=fun e he=>by
  have a1:=(ZaQ i1 (Zaq.2 ⟨e,he,.inl rfl⟩)).1
  have a2:=(ZaQ i1 (Zaq.2 ⟨e,he,.inr rfl⟩)).1
  have a3:=hr.keyr e.key ⟨e,he,rfl⟩
  have hm:e ∈ l.filter (kindOk mk):=by rw [hlf];exact he
  have h4:=(YV.1 hm).2
  unfold kindOk at h4
  simp only [Yr,Yq] at h4
  refine ⟨ZP.2 ⟨⟨?_,?_⟩,⟨?_,?_⟩,h4.1,?_,?_⟩,h4.2⟩
  ·exact Yau _
  ·exact Yb8.2 a1
  ·exact Yau _
  ·exact Yb8.2 a2
  ·exact a3.1
  ·show rkI (Zab lf) e.key≤1048575;omega
 have hmem:∀ x,x ∈ (lf.map (ZcT (ZQ lf) (Zab lf))).foldl (Zjm (ZQ lf).length) [] ↔ ∃ e,e ∈ lf∧Zb7 (rkI (ZQ lf)) (rkI (Zab lf)) e=x:=fun x=>by
  rw [Zil]
  constructor
  ·rintro (h | ⟨h,_⟩)
   ·cases h
   ·obtain ⟨e,he,h2⟩:=Yv.1 h
    exact ⟨e,he,h2⟩
  ·rintro ⟨e,he,rfl⟩
   exact .inr ⟨Yv.2 ⟨e,he,rfl⟩,(hright e he).1⟩
 have hA:∀ x,(x ∈ (lf.map (ZcT (ZQ lf) (Zab lf))).foldl (Zjm (ZQ lf).length) []∧ofB mk x.kind=true) ↔ ∃ e,e ∈ lf∧Zb7 (rkI (ZQ lf)) (rkI (Zab lf)) e=x:=fun x=>by
  rw [hmem]
  constructor
  ·exact fun h=>h.1
  ·rintro ⟨e,he,rfl⟩
   exact ⟨⟨e,he,rfl⟩,(hright e he).2⟩
 refine ⟨_,⟨?_,hA,fun ms need j w hc=>?_,hr⟩,(ZiS hn _).1⟩
 ·have h9:=Zej (n:=(ZQ lf).length) (lf.map (ZcT (ZQ lf) (Zab lf))) []
  rw [YH,Yy] at h9
  omega
 ·obtain ⟨c1,c2,_⟩:=hc
  cases w with
  | nil=>exact absurd rfl c1
  | cons x w=>
   obtain ⟨h1,h2,_⟩:=c2
   obtain ⟨e,_,rfl⟩:=(hA x).1 h1
   rw [← h2]
   exact Yau _
theorem Zoc {E:List Zx} {O I:List (List Z8)} {mk ms mn mm:Int} (h:ZbN O.length E O I) (hbn:∀ k,1≤k→k≤3→ofB mn k=(ofB mk k && !ofB ms k)) (hbm:∀ k,1≤k→k≤3→ofB mm k=(ofB mk k && ofB ms k)) {i:Nat} (hi:i<O.length) (hn:O.length≤4096) :
  ∃ D D2,Zdt O.length (fun x=>adjO I mk x) (i:Int) (i:Int) D∧Zdt (2*O.length) (ZdJ (fun x=>adjO I mn x) (fun x=>adjO I mm x)) (2*(i:Int)) (2*(i:Int)) D2∧ZcF (fun x=>x ∈ E∧ofB mk x.kind=true) (fun y=>ofB ms y.kind) (i:Int) D (ZaU O.length D2) ∧
   D.length=O.length∧(ZaU O.length D2).length=O.length∧(∀ z ∈ D,-1≤z∧z≤90000) ∧ ∀ z ∈ ZaU O.length D2,-1≤z∧z≤90000:=by
 obtain ⟨D,hD⟩:=Zok O.length (fun x=>adjO I mk x) (i:Int) (i:Int)
 obtain ⟨D2,hD2⟩:=Zok (2*O.length) (ZdJ (fun x=>adjO I mn x) (fun x=>adjO I mm x)) (2*(i:Int)) (2*(i:Int))
 have hk:∀ y ∈ E,1≤y.kind∧y.kind≤3:=fun y hy=>(ZP.1 (h.ok y hy)).2.2.1
 refine ⟨D,D2,hD,hD2,Zm6 (fun x hx=>(ZP.1 (h.ok x hx.1)).2.1) (prev:=fun x=>adjO I mk x) (fun x u=>?_) (p:=fun x=>adjO I mn x) (q:=fun x=>adjO I mm x) (fun x u=>?_) (fun x u=>?_) hD hD2,hD.1,ZaL,fun z hz=>?_,fun z hz=>?_⟩
 ·rw [(h.prev mk x).2 u]
  constructor
  ·rintro ⟨y,y1,y2,y3,y4⟩;exact ⟨y,⟨y1,y3⟩,y2,y4⟩
  ·rintro ⟨y,⟨y1,y3⟩,y2,y4⟩;exact ⟨y,y1,y2,y3,y4⟩
 ·rw [(h.prev mn x).2 u]
  constructor
  ·rintro ⟨y,y1,y2,y3,y4⟩
   obtain ⟨k1,k2⟩:=hk y y1
   rw [hbn _ k1 k2,Yr,Yap] at y3
   exact ⟨y,⟨y1,y3.1⟩,y3.2,y2,y4⟩
  ·rintro ⟨y,⟨y1,y3⟩,y5,y2,y4⟩
   obtain ⟨k1,k2⟩:=hk y y1
   exact ⟨y,y1,y2,by rw [hbn _ k1 k2,y3,y5];rfl,y4⟩
 ·rw [(h.prev mm x).2 u]
  constructor
  ·rintro ⟨y,y1,y2,y3,y4⟩
   obtain ⟨k1,k2⟩:=hk y y1
   rw [hbm _ k1 k2,Yr] at y3
   exact ⟨y,⟨y1,y3.1⟩,y3.2,y2,y4⟩
  ·rintro ⟨y,⟨y1,y3⟩,y5,y2,y4⟩
   obtain ⟨k1,k2⟩:=hk y y1
   exact ⟨y,y1,y2,by rw [hbm _ k1 k2,y3,y5];rfl,y4⟩
 ·have:=hD.le (h.prevR mk).1 ⟨by omega,by omega⟩ z hz
  omega
 ·have:=hD2.le (Zp8 (h.prevR mn).1 (h.prevR mm).1) ⟨by omega,by omega⟩ z (Zr2 hD2.1 hz)
  omega
theorem Zjv {lf:List Zg} {mk ms:Int} {E:List Zx} {need:Bool} {i:Nat} {way:List Zx} {R:List Zg} (hE:ZsC lf mk E) (hb:ZdG (fun x=>x ∈ E∧ofB mk x.kind=true) (fun y=>ofB ms y.kind) Zns need (i:Int) way) (hi:i=(ZQ lf).length)
  (hR:(R = [] ∧ ∀ j w,¬ CwE (· ∈ lf) (fun e=>ofB ms e.kind) need j w)∨Zda (· ∈ lf) (fun e=>ofB ms e.kind) need R) :
  (way = []→[] = R)∧(way≠[]→(∀ x ∈ way,(0≤x.src∧x.src<((ZQ lf).length:Int))∧(0≤x.dst∧x.dst<((ZQ lf).length:Int))∧0≤x.label∧x.label<((Zab lf).length:Int))∧way.map (Zjd (ZQ lf) (Zab lf))=R∧R≠[]):=by
 obtain ⟨_,hA,_,hr⟩:=hE
 have i1:Zdu (ZQ lf):=(ZV _).1
 have i2:Zdu (Zab lf):=(ZV _).1
 rw [show (fun x=>x ∈ E∧ofB mk x.kind=true)=fun x=>∃ e,e ∈ lf∧Zb7 (rkI (ZQ lf)) (rkI (Zab lf)) e=x from funext fun x=>propext (hA x)] at hb
 obtain ⟨f1,f2⟩:=hr.first (n:=(i:Int)) (fun a ha=>by rw [hi];exact Yb8.2 (ZaQ i1 (Zaq.2 ha)).1) hb
 constructor
 ·intro hw
  rcases hR with ⟨h1,_⟩ | ⟨j,h1,_⟩
  ·exact h1.symm
  ·exact absurd h1 (f1 hw j R)
 ·intro hw
  have hF:=f2 hw
  refine ⟨fun x hx=>?_,?_⟩
  ·obtain ⟨j,_,hc,_⟩:=hb.2 hw
   obtain ⟨e,he,rfl⟩:=ZsA hc.2.1 x hx
   have a1:=(ZaQ i1 (Zaq.2 ⟨e,he,.inl rfl⟩)).1
   have a2:=(ZaQ i1 (Zaq.2 ⟨e,he,.inr rfl⟩)).1
   have a3:=(ZaQ i2 (Zb8.2 ⟨e,he,rfl⟩)).1
   exact ⟨⟨Yau _,Yb8.2 a1⟩,⟨Yau _,Yb8.2 a2⟩,Yau _,Yb8.2 a3⟩
  ·have hF2:Zda (· ∈ lf) (fun e=>ofB ms e.kind) need (way.map (Zjd (ZQ lf) (Zab lf))):=hF
   rcases hR with ⟨_,h2⟩ | h2
   ·obtain ⟨j,h3,_⟩:=hF2
    exact absurd h3 (h2 j _)
   ·refine ⟨hF2.one h2,?_⟩
    obtain ⟨j,h3,_⟩:=h2
    exact h3.1
theorem Zmy (l lf:List Zg) (mask must mk ms mn mm:Int) (hmk:bits .and .i64 mask 14=mk) (hms:bits .and .i64 must 14=ms) (hmn:bits .andNot .i64 mk ms=mn) (hmm:bits .and .i64 mk ms=mm) (hne:mn≠mm) (hbn:∀ k,1≤k→k≤3→ofB mn k=(ofB mk k && !ofB ms k)) (hbm:∀ k,1≤k→k≤3→ofB mm k=(ofB mk k && ofB ms k)) (hl:l.length≤100000) (hlf:l.filter (kindOk mk)=lf) (hn0:(ZQ lf).length≤4096) (R:List Zg) (hR:(R = [] ∧ ∀ j w,¬ CwE (· ∈ lf) (fun e=>ofB ms e.kind) (!decide (ms=0)) j w)∨Zda (· ∈ lf) (fun e=>ofB ms e.kind) (!decide (ms=0)) R):FnP prog 76 [.sl Zq l,.int .i64 mask,.int .i64 must] (.tup [.sl Zq R,.int .i64 (if R = [] then 3 else 0)]):=by
 refine FnP.mk func76 rfl ntmps76 rfl fun B a w F V hfr G=>?_
 have hll:lf.length≤100000:=by rw [← hlf];exact Y1 (Yac _ _) hl
 have hn:=hn0
 have hkl:(Zab lf).length≤100000:=Y1 Zms hll
 refine Ya (Zb G (qf (Zf6 101 .t one_int) r1 qz (qC (qI qZ))) V [7,6,4,2,0] [101,0] (fun _=>rfl) (fun _=>rfl) fun τ a w F G=>?_)
 try dsimp only [RS.sub,SF.sub,CF.sub,csub,Anc.sub,List.map,zCF,Zn,Zq,Zao] at G
 generalize τ 4=v4 at G
 refine Za (Ya (Ze G (qf (oL false 1 101 .is) r1 r1 (qf (o_and .t qi) r1 qz (qR rr (qf (o_and .t qi) r1 qz (qf (ZaZ 101 .is .t one_int kr kr) r2 r1 (qO rr qZ)))))) V [7,6,4,2,0] [101,0] rfl rfl fun a w F G=>?_))
 rw [hmk,hms] at G
 obtain ⟨F,G⟩:=G.giveRef 101 4 rfl rfl rfl
 obtain ⟨F,G⟩:=G.nM [7,6,4,2,0] [0]
 try dsimp only [Go.Gm.unCF] at G
 refine Za (Ya ?_)
 replace G:=G.fresh 102 rfl
 refine Zb G (qR rr (qf (Zar 102 (Zqw l ow) func124 rfl kr (Args.one .t) pvOne1) r1 r1 (qf (ZaT (Args.one .t)) r1 qz (qf (Zk8 23 102 (fun v=>Zuw _ l ow (fun e=>!kindOk mk e) 125 f125 [.ref [.int .i64 mk]] func125 rfl kr (fun e=>Zsk e mk)) func123 rfl kr (Zom.two .same (.of .t)) pvOne1) r2 r1 (qO rr qZ))))) V [7,6,4,2,0] [102,0] (fun _=>rfl) (fun _=>rfl) fun τ a w F G=>?_
 try dsimp only [RS.sub,SF.sub,CF.sub,csub,Anc.sub,List.map,Zn,Zq,Zao] at G
 generalize τ 25=v25 at G
 simp only [Bool.not_not] at G
 rw [hlf] at G
 refine Za (Ya ?_)
 obtain ⟨F,G⟩:=G.give 102 0 rfl rfl
 obtain ⟨F,G⟩:=G.nM [7,6,4,2,0] [0]
 refine Zb G (qR rr (qf (oP (Zt8 lf hll) func126 (Args.one .t)) r1 qz (qf (oH [.slice none 0 0,.slice none 0 0] 103) trivial qz (qf (oA 2 103 .same (.conv .t .agg)) r2 r1 qZ)))) V [8,7,6,4,2,0] [103,0] (fun _=>rfl) (fun _=>rfl) fun τ a w F G=>?_
 try dsimp only [RS.sub,SF.sub,CF.sub,csub,Anc.sub,List.map,Zf,xL,xM,Nat.reduceAdd,xD,xE,xT,xU,xC,xN,zCF,Zn,Zq,Zao] at G
 generalize τ 8=v8 at G
 refine Za (Ya (Ze G (qR rr (qe 2 103 r1 r1 (qf (oP (Zuc lf (ZQ lf) (Zab lf) hll hn0 ow ow (ZV _).1 (ZV _).1) func127 (Args.two .t (.pagg .t))) r2 qz (qR rr (qf (Zh .t rfl) r1 qz (qf (Zh .t rfl) r1 qz (qO rr (qO rr qZ)))))))) V [10,9,8,7,6,4,2] [103,0] rfl rfl fun a w F G=>?_))
 obtain ⟨q,hq0⟩:∃ q,q=ZX (ZQ lf).length (lf.map (ZcT (ZQ lf) (Zab lf))):=⟨_,rfl⟩
 rw [← hq0] at G
 obtain ⟨E,hE0,hD0⟩:=Zn0 hlf hll hn hkl
 rw [← hq0] at hD0
 have hoq:=hD0.ol
 have hD:ZbN q.1.length E q.1 q.2.1:=by rw [hoq];exact hD0
 have hEl:=hE0.1
 have hO:∀ l ∈ q.1,l.length≤1000000:=fun l hl=>(hD.on.r hEl l hl).1
 have hn:q.1.length≤4096:=by omega
 have hnil:=hE0.2.2.1 ms (!decide (ms=0))
 refine Za (Ya (Ya (rZ G (qR rr (qf (o_neq .t qi) r1 qz qZ)) V [35,10,9,8,7,6,4,2] [103,0] fun G=>?_)))
 refine Zc G rfl (fun hc0=>?_) (fun hc0=>?_)
 ·simp at hc0
 refine Ye (Za (Ya (rZ G (qC qZ) V [11,9,8,7,6,4,2] [103,0] fun G=>(Ya (Ya ?_)))))
 refine rZ G (qg 0 103 r1 r1 (qa 103 r1 r1 (qu Ycd r1 (qJ qZ)))) V [40,39,11,9,8,7,6,4,2] [103,0] fun G=>Yg ?_
 refine Zl (σ:=(Nat)×(List Zx)) [2,4,6,7,8,9,39] [0,103] (fun s=>[(40,.pv (.int .i64 (s.1:Int))),(11,.pv (if s.2 = [] then PV.is (.slice none 0 0) else PV.sl Zao s.2))]) (fun s=>[]) (fun s=>s.1≤(ZQ lf).length∧(ZdG (fun x=>x ∈ E∧ofB mk x.kind=true) (fun y:Zx=>ofB ms y.kind) Zns (!decide (ms=0)) (s.1:Int) s.2∧s.2.length≤90001)) (fun s=>(ZQ lf).length - s.1) ((0),([])) G ⟨rfl,rfl,rfl,rfl,rfl,rfl,rfl,rfl,rfl,tv⟩ ⟨rfl,rfl,tv⟩ ⟨Yx _,⟨ZdG.nil _ _ _ _ hnil,Yx _⟩⟩ ?_
 clear G;intro s a w F hC G
 obtain ⟨i,way⟩:=s
 try dsimp only at hC
 obtain ⟨F,G⟩:=G.nM [40,39,11,9,8,7,6,4,2] [103,0]
 try dsimp only at G
 obtain ⟨hi,hq⟩:=hC
 obtain ⟨hq,hwy⟩:=hq
 refine Ya (rZ G (qL r2) V [41,40,39,11,9,8,7,6,4,2] [103,0] fun G=>Ya ?_)
 refine Zc G rfl (fun hc1=>?_) (fun hc1=>?_)
 ·have hil:i<(ZQ lf).length:=by simp at hc1;omega
  obtain ⟨D,D2,hDD,hDD2,hL,hlD,hlE,hb1,hb2_⟩:=Zoc hD hbn hbm (i:=i) ow hn
  have hst:=ZpQ (need:=(!decide (ms=0))) (hD.outM mk) (hD.outP mk) hL hq (b:=(Z0 (ZG (fun y:Zx=>ofB ms y.kind) D (ZaU q.1.length D2) (!decide (ms=0))) (Zad q.1 mk (i:Int)))) rfl
  have hlv:∀ x ∈ Zad q.1 mk (i:Int),-1≤(ZG (fun y:Zx=>ofB ms y.kind) D (ZaU q.1.length D2) (!decide (ms=0))) x∧(ZG (fun y:Zx=>ofB ms y.kind) D (ZaU q.1.length D2) (!decide (ms=0))) x≤90000:=fun x hx=>ZqF (by have h9:=(hD.outR mk _ x hx).1;rw [hlD,hlE];omega) hb1 hb2_
  have hsb:=Zjg (f:=(ZG (fun y:Zx=>ofB ms y.kind) D (ZaU q.1.length D2) (!decide (ms=0)))) (l:=Zad q.1 mk (i:Int)) (N:=90001) ow fun x hx=>(by have:=hlv x hx;omega)
  refine Ye (Za (Ya (Yg (Ya (rZ G (qR rr (qO rr qZ)) V [40,39,12,11,9,8,7,6,4,2] [103,0] fun G=>Ya ?_)))))
  refine Zb G (qR rr (qf (oR false 1 .t) r1 qz (qR rr (qR rr (qf (oP (Zwf E q.1 q.2.1 q.2.2 mk ms (i:Int) mn mm hmn hmm hne hD ow hn hEl (Yau _) ow D D2 hDD hDD2) func128 (Args.four .t .t .t .t)) r4 qz (qf (oH [.pointer none,.int .i64 0,.int .i64 0,.slice none 0 0,.slice none 0 0] 104) trivial qz (qf (oA 5 104 .same (.conv .t .agg)) r2 r1 qZ))))))) V [40,39,13,12,11,9,8,7,6,4,2] [104,103,0] (fun _=>rfl) (fun _=>rfl) fun τ a w F G=>?_
  try dsimp only [RS.sub,SF.sub,CF.sub,csub,Anc.sub,List.map,Zf,xL,xM,Nat.reduceAdd,xD,xE,xT,xU,xC,xN,zCF,ldSF,Zn,Zq,Zao] at G
  generalize τ 13=v13 at G
  refine Za (Ya (rZ G (qe 5 104 r1 r1 (qR rr (qR rr (qf (o_neq .t qi) r1 qz (qf (oP (Zt2 q.1 q.2.1 q.2.2 mk ms D (ZaU q.1.length D2) (i:Int) (!decide (ms=0)) hO (fun u x hx=>by have h9:=(hD.outR mk u x hx).1;rw [hlD,hlE];omega) (fun u=>Y1 (hD.outL mk u) hEl) hlv) func129 (Args.three (.pagg .t) .t .t)) r3 qz (qO rr qZ)))))) V [40,39,14,13,12,11,9,8,7,6,4,2] [104,103,0] fun G=>Ya ?_))
  by_cases hfk:way = []
  ·rw [Yf hfk] at G
   refine Ze G (qR rr (qf (ZaP .t qi) r1 qz (qR rr (qm rfl rfl rfl rfl (qk rfl (fun h=>ZgY Ycj (.w h)) r2 qz (qk rfl (fun h=>oM (.w h)) r2 qz (ZB.cons (ZaF.cond2 rfl rfl (fun h=>Za3 .t (by rfl))) r2 qz (ZB.cons (ZaF.cond2 rfl rfl (fun h=>Za3 .t (by rfl))) r2 qz (ZB.cons (ZaF.cond2 rfl rfl (fun h=>ZnV Ycj (.w h))) r2 qz (ZB.cons (ZaF.cond2 rfl rfl (fun h=>ZaA (.w h) (.w h))) r3 qz (qk rfl (fun h=>Zal (.w h) (.wc h)) r3 qz (qf (ZE .t .t) r2 qz qZ)))))))))))) V [64,40,39,14,13,12,11,9,8,7,6,4,2] [104,103,0] rfl rfl fun a w F G=>?_
   try dsimp only [Zn,Zq,Zao] at G
   refine Za (Zc G rfl (fun hc2=>?_) (fun hc2=>?_))
   ·have hyes:0<(Z0 (ZG (fun y:Zx=>ofB ms y.kind) D (ZaU q.1.length D2) (!decide (ms=0))) (Zad q.1 mk (i:Int)))∧(way = []∨(Z0 (ZG (fun y:Zx=>ofB ms y.kind) D (ZaU q.1.length D2) (!decide (ms=0))) (Zad q.1 mk (i:Int)))<way.length):=by have h9:=hc2;rw [Yr,Yq] at h9;exact ⟨h9.1,.inl hfk⟩
    obtain ⟨hW0,hwne,hb2,hwl2⟩:=hst.2 hyes
    have hkn:(Z0 (ZG (fun y:Zx=>ofB ms y.kind) D (ZaU q.1.length D2) (!decide (ms=0))) (Zad q.1 mk (i:Int)))=(((Z0 (ZG (fun y:Zx=>ofB ms y.kind) D (ZaU q.1.length D2) (!decide (ms=0))) (Zad q.1 mk (i:Int))).toNat:Nat):Int):=by omega
    have hwy2:(Zbb (Zad q.1 mk) (ZG (fun y:Zx=>ofB ms y.kind) D (ZaU q.1.length D2)) (fun y:Zx=>ofB ms y.kind) (i:Int) (Z0 (ZG (fun y:Zx=>ofB ms y.kind) D (ZaU q.1.length D2) (!decide (ms=0))) (Zad q.1 mk (i:Int))).toNat (i:Int) (!decide (ms=0))).length≤90001:=by omega
    refine Ze G (qe 5 104 r1 r1 (qR rr (qR rr (qR rr (qf (o_neq .t qi) r1 qz (qf (oP (ZsU E q.1 q.2.1 q.2.2 mk ms D (ZaU q.1.length D2) (i:Int) (Z0 (ZG (fun y:Zx=>ofB ms y.kind) D (ZaU q.1.length D2) (!decide (ms=0))) (Zad q.1 mk (i:Int))).toNat (!decide (ms=0)) ow hD hL hW0 hO (fun u x hx=>by have h9:=(hD.outR mk u x hx).1;rw [hlD,hlE];omega) (fun u=>Y1 (hD.outL mk u) hEl)) func130 (Args.four (.pagg .t) .t (.conv .t (Ent.int hkn)) .t)) r4 qz (qO rr qZ))))))) V [40,39,11,9,8,7,6,4,2] [104,103,0] rfl rfl fun a w F G=>Zi (Za ?_)
    refine rZ G (qp r1 (qR rr qZ)) V [40,39,11,9,8,7,6,4,2] [104,103,0] fun G=>?_
    replace G:=G.ent (i:=40) (s':=.pv (.int .i64 ((i+1:Nat):Int))) rfl (.int (Zd ow))
    replace G:=G.ent (i:=11) (s':=.pv (if (Zbb (Zad q.1 mk) (ZG (fun y:Zx=>ofB ms y.kind) D (ZaU q.1.length D2)) (fun y:Zx=>ofB ms y.kind) (i:Int) (Z0 (ZG (fun y:Zx=>ofB ms y.kind) D (ZaU q.1.length D2) (!decide (ms=0))) (Zad q.1 mk (i:Int))).toNat (i:Int) (!decide (ms=0))) = [] then PV.is (.slice none 0 0) else PV.sl Zao (Zbb (Zad q.1 mk) (ZG (fun y:Zx=>ofB ms y.kind) D (ZaU q.1.length D2)) (fun y:Zx=>ofB ms y.kind) (i:Int) (Z0 (ZG (fun y:Zx=>ofB ms y.kind) D (ZaU q.1.length D2) (!decide (ms=0))) (Zad q.1 mk (i:Int))).toNat (i:Int) (!decide (ms=0))))) rfl ((by rw [Yc hwne];exact Ent.refl))
    obtain ⟨F,G⟩:=G.nM [39,9,8,7,6,4,2,11,40] [103,0]
    exact ⟨((i+1),((Zbb (Zad q.1 mk) (ZG (fun y:Zx=>ofB ms y.kind) D (ZaU q.1.length D2)) (fun y:Zx=>ofB ms y.kind) (i:Int) (Z0 (ZG (fun y:Zx=>ofB ms y.kind) D (ZaU q.1.length D2) (!decide (ms=0))) (Zad q.1 mk (i:Int))).toNat (i:Int) (!decide (ms=0))))),F,⟨by omega,⟨by have h9:((i+1:Nat):Int)=(i:Int)+1:=ow;rw [h9];exact hb2,hwy2⟩⟩,G,by omega⟩
   have hno:¬ (0<(Z0 (ZG (fun y:Zx=>ofB ms y.kind) D (ZaU q.1.length D2) (!decide (ms=0))) (Zad q.1 mk (i:Int)))∧(way = []∨(Z0 (ZG (fun y:Zx=>ofB ms y.kind) D (ZaU q.1.length D2) (!decide (ms=0))) (Zad q.1 mk (i:Int)))<way.length)):=by have h9:=hc2;rintro ⟨h8,_⟩;rw [Yag h8] at h9;simp at h9
   have hb2:=hst.1 hno
   have hwy2:=hwy
   refine Ye (Zi (Za (rZ G (qp r1 (qR rr qZ)) V [40,39,11,9,8,7,6,4,2] [104,103,0] fun G=>?_)))
   replace G:=G.ent (i:=40) (s':=.pv (.int .i64 ((i+1:Nat):Int))) rfl (.int (Zd ow))
   replace G:=G.ent (i:=11) (s':=.pv (if way = [] then PV.is (.slice none 0 0) else PV.sl Zao way)) rfl ((by rw [Yf hfk];exact Ent.refl))
   obtain ⟨F,G⟩:=G.nM [39,9,8,7,6,4,2,11,40] [103,0]
   exact ⟨((i+1),(way)),F,⟨by omega,⟨by have h9:((i+1:Nat):Int)=(i:Int)+1:=ow;rw [h9];exact hb2,hwy2⟩⟩,G,by omega⟩
  rw [Yc hfk] at G
  refine Ze G (qR rr (qf (ZaP .t qi) r1 qz (qR rr (qm rfl rfl rfl rfl (qk rfl (fun h=>ZiZ Ycj (.w h) hfk) r2 qz (qk rfl (fun h=>oM (.w h)) r2 qz (ZB.cons (ZaF.cond2 rfl rfl (fun h=>Za3 .t (by rfl))) r2 qz (ZB.cons (ZaF.cond2 rfl rfl (fun h=>Za3 .t (by rfl))) r2 qz (ZB.cons (ZaF.cond2 rfl rfl (fun h=>ZcD Ycj (.w h))) r2 qz (ZB.cons (ZaF.cond2 rfl rfl (fun h=>ZaA (.w h) (.w h))) r3 qz (qk rfl (fun h=>Zal (.w h) (.wc h)) r3 qz (qf (ZE .t .t) r2 qz qZ)))))))))))) V [64,40,39,14,13,12,11,9,8,7,6,4,2] [104,103,0] rfl rfl fun a w F G=>?_
  try dsimp only [Zn,Zq,Zao] at G
  refine Za (Zc G rfl (fun hc3=>?_) (fun hc3=>?_))
  ·have hyes:0<(Z0 (ZG (fun y:Zx=>ofB ms y.kind) D (ZaU q.1.length D2) (!decide (ms=0))) (Zad q.1 mk (i:Int)))∧(way = []∨(Z0 (ZG (fun y:Zx=>ofB ms y.kind) D (ZaU q.1.length D2) (!decide (ms=0))) (Zad q.1 mk (i:Int)))<way.length):=by have h9:=hc3;rw [YbI,Yr,Yq,Yq] at h9;exact ⟨h9.1,.inr h9.2⟩
   obtain ⟨hW0,hwne,hb2,hwl2⟩:=hst.2 hyes
   have hkn:(Z0 (ZG (fun y:Zx=>ofB ms y.kind) D (ZaU q.1.length D2) (!decide (ms=0))) (Zad q.1 mk (i:Int)))=(((Z0 (ZG (fun y:Zx=>ofB ms y.kind) D (ZaU q.1.length D2) (!decide (ms=0))) (Zad q.1 mk (i:Int))).toNat:Nat):Int):=by omega
   have hwy2:(Zbb (Zad q.1 mk) (ZG (fun y:Zx=>ofB ms y.kind) D (ZaU q.1.length D2)) (fun y:Zx=>ofB ms y.kind) (i:Int) (Z0 (ZG (fun y:Zx=>ofB ms y.kind) D (ZaU q.1.length D2) (!decide (ms=0))) (Zad q.1 mk (i:Int))).toNat (i:Int) (!decide (ms=0))).length≤90001:=by omega
   refine Ze G (qe 5 104 r1 r1 (qR rr (qR rr (qR rr (qf (o_neq .t qi) r1 qz (qf (oP (ZsU E q.1 q.2.1 q.2.2 mk ms D (ZaU q.1.length D2) (i:Int) (Z0 (ZG (fun y:Zx=>ofB ms y.kind) D (ZaU q.1.length D2) (!decide (ms=0))) (Zad q.1 mk (i:Int))).toNat (!decide (ms=0)) ow hD hL hW0 hO (fun u x hx=>by have h9:=(hD.outR mk u x hx).1;rw [hlD,hlE];omega) (fun u=>Y1 (hD.outL mk u) hEl)) func130 (Args.four (.pagg .t) .t (.conv .t (Ent.int hkn)) .t)) r4 qz (qO rr qZ))))))) V [40,39,11,9,8,7,6,4,2] [104,103,0] rfl rfl fun a w F G=>Zi (Za ?_)
   refine rZ G (qp r1 (qR rr qZ)) V [40,39,11,9,8,7,6,4,2] [104,103,0] fun G=>?_
   replace G:=G.ent (i:=40) (s':=.pv (.int .i64 ((i+1:Nat):Int))) rfl (.int (Zd ow))
   replace G:=G.ent (i:=11) (s':=.pv (if (Zbb (Zad q.1 mk) (ZG (fun y:Zx=>ofB ms y.kind) D (ZaU q.1.length D2)) (fun y:Zx=>ofB ms y.kind) (i:Int) (Z0 (ZG (fun y:Zx=>ofB ms y.kind) D (ZaU q.1.length D2) (!decide (ms=0))) (Zad q.1 mk (i:Int))).toNat (i:Int) (!decide (ms=0))) = [] then PV.is (.slice none 0 0) else PV.sl Zao (Zbb (Zad q.1 mk) (ZG (fun y:Zx=>ofB ms y.kind) D (ZaU q.1.length D2)) (fun y:Zx=>ofB ms y.kind) (i:Int) (Z0 (ZG (fun y:Zx=>ofB ms y.kind) D (ZaU q.1.length D2) (!decide (ms=0))) (Zad q.1 mk (i:Int))).toNat (i:Int) (!decide (ms=0))))) rfl ((by rw [Yc hwne];exact Ent.refl))
   obtain ⟨F,G⟩:=G.nM [39,9,8,7,6,4,2,11,40] [103,0]
   exact ⟨((i+1),((Zbb (Zad q.1 mk) (ZG (fun y:Zx=>ofB ms y.kind) D (ZaU q.1.length D2)) (fun y:Zx=>ofB ms y.kind) (i:Int) (Z0 (ZG (fun y:Zx=>ofB ms y.kind) D (ZaU q.1.length D2) (!decide (ms=0))) (Zad q.1 mk (i:Int))).toNat (i:Int) (!decide (ms=0))))),F,⟨by omega,⟨by have h9:((i+1:Nat):Int)=(i:Int)+1:=ow;rw [h9];exact hb2,hwy2⟩⟩,G,by omega⟩
  have hno:¬ (0<(Z0 (ZG (fun y:Zx=>ofB ms y.kind) D (ZaU q.1.length D2) (!decide (ms=0))) (Zad q.1 mk (i:Int)))∧(way = []∨(Z0 (ZG (fun y:Zx=>ofB ms y.kind) D (ZaU q.1.length D2) (!decide (ms=0))) (Zad q.1 mk (i:Int)))<way.length)):=by have h9:=hc3;rintro ⟨h8,h7⟩;rw [Yag h8,Ybf,YbI,YD] at h9;exact h7.elim hfk h9
  have hb2:=hst.1 hno
  have hwy2:=hwy
  refine Ye (Zi (Za (rZ G (qp r1 (qR rr qZ)) V [40,39,11,9,8,7,6,4,2] [104,103,0] fun G=>?_)))
  replace G:=G.ent (i:=40) (s':=.pv (.int .i64 ((i+1:Nat):Int))) rfl (.int (Zd ow))
  replace G:=G.ent (i:=11) (s':=.pv (if way = [] then PV.is (.slice none 0 0) else PV.sl Zao way)) rfl ((by rw [Yc hfk];exact Ent.refl))
  obtain ⟨F,G⟩:=G.nM [39,9,8,7,6,4,2,11,40] [103,0]
  exact ⟨((i+1),(way)),F,⟨by omega,⟨by have h9:((i+1:Nat):Int)=(i:Int)+1:=ow;rw [h9];exact hb2,hwy2⟩⟩,G,by omega⟩
 have hil:i=(ZQ lf).length:=by simp at hc1;omega
 refine Yw (Zj (Zj (Zo (Za (Ya (Ya ?_))))))
 by_cases hfk:way = []
 ·rw [Yf hfk] at G
  refine rZ G (qR rr (qf (ZgY Ycj .t) r1 qz qZ)) V [73,11,8,7,6] [103,0] fun G=>?_
  refine Zc G rfl (fun hc4=>?_) (fun hc4=>?_)
  ·have hgR:[] = R:=(Zjv hE0 hq hil hR).1 hfk
   have hgE:(3:Int)=if R = [] then 3 else 0:=by rw [← hgR,Yf rfl]
   refine Ya (rZ G (qC (qI qZ)) V [11,8,7,6] [103,0] fun G=>(Yh (Zk ?_)))
   refine Z6 hfr G rfl (.tmp rfl (.tmp rfl .nil)) (.two (.trans .nilSl (.sl hgR)) (.int hgE))
  simp at hc4
 rw [Yc hfk] at G
 refine rZ G (qR rr (qf (ZiZ Ycj .t hfk) r1 qz qZ)) V [73,11,8,7,6] [103,0] fun G=>?_
 refine Zc G rfl (fun hc5=>?_) (fun hc5=>?_)
 ·simp at hc5
 obtain ⟨hwr,hres⟩:=(Zjv hE0 hq hil hR).2 hfk
 refine Ye (Za (Ya (rZ G (qC qZ) V [15,11,8,7,6] [103,0] fun G=>(Ya (Ya ?_)))))
 refine rZ G (qR rr (qu Ycj r1 (qJ qZ))) V [76,75,74,15,8,7,6] [103,0] fun G=>Yg ?_
 replace G:=G.fresh 51 rfl
 replace G:=G.turn 51 rfl (ZaE (T:=42) (sz:=4) (R:=Zq))
 refine Zl (σ:=(Nat)×(Value)×(List Zg)) [6,7,8,74,75] [0,103] (fun s=>[(76,.pv (.int .i64 (s.1:Int))),(15,.pv (.is s.2.1))]) (fun s=>[(51,.ob (.val s.2.1) (Zy 42 4 Zq s.2.2))]) (fun s=>s.1≤way.length∧(s.2.2=(way.take s.1).map (Zjd (ZQ lf) (Zab lf)))) (fun s=>way.length - s.1) ((0),(.slice none 0 0),([])) G ⟨rfl,rfl,rfl,rfl,rfl,rfl,rfl,tv⟩ ⟨rfl,rfl,rfl,tv⟩ ⟨Yx _,rfl⟩ ?_
 clear G;intro s a w F hC G
 obtain ⟨i,v,out⟩:=s
 try dsimp only at hC
 obtain ⟨F,G⟩:=G.nM [76,75,74,15,8,7,6] [103,51,0]
 try dsimp only at G
 obtain ⟨hi,hq⟩:=hC
 have hol:out.length=i:=by rw [hq,YH,Yi];omega
 refine Ya (rZ G (qL r2) V [77,76,75,74,15,8,7,6] [103,51,0] fun G=>Ya ?_)
 refine Zc G rfl (fun hc6=>?_) (fun hc6=>?_)
 ·have hil:i<way.length:=by simp at hc6;omega
  refine Ye (Za (Ya (Yg (Ya (Zb G (qy 4 Ycj r2 (qf (oR true 4 .t) r1 qz (qf (oH [.int .i64 0,.int .i64 0,.int .i64 0,.int .i64 0] 105) trivial qz (qS 4 105 r2 r1 qZ)))) V [76,75,74,17,15,8,7,6] [105,103,51,0] (fun _=>rfl) (fun _=>rfl) fun τ a w F G=>?_)))))
  try dsimp only [RS.sub,SF.sub,CF.sub,csub,Anc.sub,List.map,Zf,xL,xM,Nat.reduceAdd,xD,xE,xT,xU,xC,xN,zCF,ldSF,Zn,Zq,Zao] at G
  generalize τ 17=v17 at G
  try simp only [Yb] at G
  refine Za (Zb G (qR rr (qe 2 103 r1 r1 (qe 4 105 r1 r1 (qf (oP (ZtE (ZQ lf) (Zab lf) (Nn way i) (hwr _ (nth_mem hil)).1 (hwr _ (nth_mem hil)).2.1 (hwr _ (nth_mem hil)).2.2) func131 (Args.two (.pagg .t) (.pagg .t))) r2 qz (qf (o_buildSliceE (sz:=4) (zs:=[.int .i64 0,.int .i64 0,.int .i64 0,.int .i64 0]) (r:=[(0,.tmp 83)]) (l:=[_,_,_,_]) Yce kr kr kr kr rfl rfl (.agg rfl (.conv .t .agg) kr kr .nil) rfl) r1 qz (qf (ZR (sz:=4) (bs:=32) 51 (.mk' Yce kr kr) (by intro x;rfl) .is (.arr (l':=[Zjd (ZQ lf) (Zab lf) (Nn way i)]) .t) (by simp only [Yd,Yl,Yy,Yi,YE];omega) (by decide)) ⟨rfl,rfl,tv⟩ ⟨rfl,tv⟩ (qO rr qZ))))))) V [76,75,74,15,8,7,6] [105,103,51,0] (fun _=>rfl) (fun _=>rfl) fun τ a w F G=>?_)
  try dsimp only [RS.sub,SF.sub,CF.sub,csub,Anc.sub,List.map,Zf,xL,xM,Nat.reduceAdd,xD,xE,xT,xU,xC,xN,zCF,ldSF,Zn,Zq,Zao] at G
  generalize τ 85=v85 at G
  refine Zi (Za (rZ G (qp r1 (qR rr qZ)) V [76,75,74,15,8,7,6] [105,103,51,0] fun G=>?_))
  replace G:=G.ent (i:=76) (s':=.pv (.int .i64 ((i+1:Nat):Int))) rfl (.int (Zd ow))
  obtain ⟨F,G⟩:=G.nM [75,74,8,7,6,15,76] [103,0,51]
  exact ⟨((i+1),_,_),F,⟨by omega,(by rw [Zp hil,YQ,← hq];rfl)⟩,G,by omega⟩
 have hil:i=way.length:=by simp at hc6;omega
 have hgR:out=R:=by rw [hq,hil,YA];exact hres.1
 have hgE:(0:Int)=if R = [] then 3 else 0:=by rw [Yc hres.2]
 refine Yw (Zj (Zj (Zo (Za (Ya (rZ G (qR rr (qO rr (qI qZ))) V [7,6] [103,51,0] fun G=>Yh ?_))))))
 obtain ⟨F,G⟩:=G.give 51 6 rfl rfl
 refine Z6 hfr G rfl (.tmp rfl (.tmp rfl .nil)) (.two (.sl hgR) (.int hgE))
structure ZqS where
 phen:Int
 walk:List Zg
 read:ZpX
 deriving DecidableEq,Inhabited
def ZkJ (w:ZqS):List PV:=[.int .i64 w.phen,.sl Zq w.walk,.int .i64 w.read.tx,.int .i64 w.read.place,.int .i64 w.read.vof.tx,.int .i64 w.read.vof.key,.int .i64 w.read.vof.nth]
def Zsq:ZpX:=⟨0,0,⟨0,0,0⟩⟩
def ZfG:ZqS:=⟨0,[],Zsq⟩
def ZuQ (p:Int) (R:List Zg):ZqS:=if R = [] then ZfG else ⟨p,R,Zsq⟩
def ZuG (p:Int) (l:List ZpX):ZqS:=if l = [] then ZfG else ⟨p,[],Nn l 0⟩
def Zeh (l:List Zg) (p:Int) (R:List Zg):Prop:=if (ZZ p).1=0 then R = [] else
 (R = [] ∧ ∀ j w,¬ CwE (· ∈ l.filter (kindOk (ZZ p).1)) (fun e=>ofB (ZZ p).2 e.kind) (!decide ((ZZ p).2=0)) j w)∨Zda (· ∈ l.filter (kindOk (ZZ p).1)) (fun e=>ofB (ZZ p).2 e.kind) (!decide ((ZZ p).2=0)) R
theorem Zo7 {p:Int} (h:(ZZ p).1≠0):bits .and .i64 (ZZ p).1 14=(ZZ p).1∧bits .and .i64 (ZZ p).2 14=(ZZ p).2∧bits .andNot .i64 (ZZ p).1 (ZZ p).2≠bits .and .i64 (ZZ p).1 (ZZ p).2 ∧
  (∀ k,1≤k→k≤3→ofB (bits .andNot .i64 (ZZ p).1 (ZZ p).2) k=(ofB (ZZ p).1 k && !ofB (ZZ p).2 k)) ∧ ∀ k,1≤k→k≤3→ofB (bits .and .i64 (ZZ p).1 (ZZ p).2) k=(ofB (ZZ p).1 k && ofB (ZZ p).2 k):=by
 have key:∀ a b:Int,(a=2∧b=0)∨(a=6∧b=0)∨(a=14∧b=8)→bits .and .i64 a 14=a∧bits .and .i64 b 14=b∧bits .andNot .i64 a b≠bits .and .i64 a b∧(∀ k,1≤k→k≤3→ofB (bits .andNot .i64 a b) k=(ofB a k && !ofB b k)) ∧ ∀ k,1≤k→k≤3→ofB (bits .and .i64 a b) k=(ofB a k && ofB b k):=by
  rintro a b (⟨rfl,rfl⟩ | ⟨rfl,rfl⟩ | ⟨rfl,rfl⟩) <;> refine ⟨by decide +kernel,by decide +kernel,by decide +kernel,fun k h1 h2=>?_,fun k h1 h2=>?_⟩ <;> (rcases (show k=1∨k=2∨k=3 by omega) with rfl | rfl | rfl <;> decide +kernel)
 refine key _ _ ?_
 unfold ZZ at h ⊢
 by_cases h1:p=1
 ·subst h1;exact .inl ⟨rfl,rfl⟩
 ·by_cases h4:p=4
  ·subst h4;exact .inr (.inl ⟨rfl,rfl⟩)
  ·by_cases h5:p=5
   ·subst h5;exact .inr (.inr ⟨rfl,rfl⟩)
   ·rw [Yc h1,Yc h4,Yc h5] at h;exact absurd rfl h
theorem ZtK (l:List Zg) (p:Int) (hl:l.length≤100000) (hN:(ZZ p).1≠0→(ZQ (l.filter (kindOk (ZZ p).1))).length≤4096) (R:List Zg) (hR:Zeh l p R):FnP prog 36 [.sl Zq l,.int .i64 p] (.tup [.agg (ZkJ (ZuQ p R)),.bool (decide (R≠[]))]):=by
 refine FnP.mk func36 rfl ntmps36 rfl fun B a w F V hfr G=>Ya ?_
 refine Zb G (qf (oH [.int .i64 0,.slice none 0 0,.int .i64 0,.int .i64 0,.int .i64 0,.int .i64 0,.int .i64 0] 101) trivial qz qB) V [5,4,1,0] [101,0] (fun _=>rfl) (fun _=>rfl) fun τ a w F G=>?_
 try dsimp only [RS.sub,SF.sub,CF.sub,csub,Anc.sub,List.map,zCF,Zq] at G
 generalize τ 4=v4 at G
 refine Za (Ya (rZ G (qR rr (qf (oP (ZkF p) func68 (Args.one .t)) r1 qz (qR rr (qf (Zh .t rfl) r1 qz (qf (Zh .t rfl) r1 qz (qO rr (qO rr qZ))))))) V [7,6,5,4,1,0] [101,0] fun G=>(Ya (Ya ?_))))
 refine rZ G (qR rr (qf (o_eql .t qi) r1 qz qZ)) V [16,7,6,5,4,1,0] [101,0] fun G=>?_
 refine Zc G rfl (fun hc0=>?_) (fun hc0=>?_)
 ·have hm0:(ZZ p).1=0:=Yt hc0
  have hR2:R = []:=by unfold Zeh at hR;rw [Yf hm0] at hR;exact hR
  have hw:ZuQ p R=ZfG:=Yf hR2
  have hok:false=decide (R≠[]):=by rw [hR2];rfl
  refine Ya (rZ G (qf (oB [] [.int .i64 0,.slice none 0 0,.int .i64 0,.int .i64 0,.int .i64 0,.int .i64 0,.int .i64 0] [(0,1),(1,1),(2,5)] .nil) trivial qz (qs 7 101 r2 r1 qB)) V [7,6,5,4,1,0] [101,0] fun G=>(Yh (Zk ?_)))
  refine Z6 hfr G rfl (.cl 101 true 7 rfl rfl (.tmp rfl .nil)) (.two (.aggLe rfl (by rw [hw];exact ⟨.refl,.nilSl,.refl,.refl,.refl,.refl,.refl,tv⟩)) (.bool hok))
 have hm0:(ZZ p).1≠0:=YJ hc0
 obtain ⟨hk1,hk2,hk3,hk4,hk5⟩:=Zo7 hm0
 have hn0:=hN hm0
 have hR2:=hR
 unfold Zeh at hR2
 rw [Yc hm0] at hR2
 refine Ye (Za (Ya (rZ G (qR rr (qR rr (qR rr (qf (oP (Zmy l _ (ZZ p).1 (ZZ p).2 (ZZ p).1 (ZZ p).2 _ _ hk1 hk2 rfl rfl hk3 hk4 hk5 hl rfl hn0 R hR2) func76 (Args.three .t .t .t)) r3 qz (qR rr (qf (Zh .t rfl) r1 qz (qf (Zh .t rfl) r1 qz (qO rr (qO rr qZ))))))))) V [9,8,5,4,1] [101,0] fun G=>(Ya (Ya ?_)))))
 refine rZ G (qR rr (qf (o_neq .t qi) r1 qz qZ)) V [26,8,5,4,1] [101,0] fun G=>?_
 refine Zc G rfl (fun hc1=>?_) (fun hc1=>?_)
 ·have hr0:R = []:=Ybv fun k=>(by have h9:=hc1;rw [Yc k] at h9;simp at h9)
  have hw:ZuQ p R=ZfG:=Yf hr0
  have hok:false=decide (R≠[]):=by rw [hr0];rfl
  refine Ya (rZ G (qf (oB [] [.int .i64 0,.slice none 0 0,.int .i64 0,.int .i64 0,.int .i64 0,.int .i64 0,.int .i64 0] [(0,1),(1,1),(2,5)] .nil) trivial qz (qs 7 101 r2 r1 qB)) V [8,5,4,1] [101,0] fun G=>(Yh (Zk ?_)))
  refine Z6 hfr G rfl (.cl 101 true 7 rfl rfl (.tmp rfl .nil)) (.two (.aggLe rfl (by rw [hw];exact ⟨.refl,.nilSl,.refl,.refl,.refl,.refl,.refl,tv⟩)) (.bool hok))
 have hr0:R≠[]:=fun k=>(by have h9:=hc1;rw [Yf k] at h9;simp at h9)
 have hw:ZuQ p R = ⟨p,R,Zsq⟩:=Yc hr0
 have hok:true=decide (R≠[]):=(Yag hr0).symm
 refine Ye (Za (Ya (rZ G (qR rr (qR rr (qf (oB [(0,.tmp 28),(1,.tmp 29)] [.int .i64 0,.slice none 0 0,.int .i64 0,.int .i64 0,.int .i64 0,.int .i64 0,.int .i64 0] [(0,1),(1,1),(2,5)] (.one rfl .t one_int kr (.one rfl .t one_sl kr .nil))) r2 qz (qs 7 101 r2 r1 qB)))) V [5,4] [101,0] fun G=>Yh ?_)))
 refine Z6 hfr G rfl (.cl 101 true 7 rfl rfl (.tmp rfl .nil)) (.two (.aggU rfl (by rw [hw] <;> rfl)) (.bool hok))
theorem Zo9 (g:Zr) (p:Int) (hsm:Za9 g):FnP prog 35 [.agg (Zw g),.int .i64 p] (.tup [.agg (ZkJ (ZuG p (ZaS g p fun _=>true))),.bool (decide ((ZaS g p fun _=>true)≠[]))]):=by
 refine FnP.mk func35 rfl ntmps35 rfl fun B a w F V hfr G=>Ya ?_
 refine Zb G (qx 101 r1 (qf (oH [.int .i64 0,.slice none 0 0,.int .i64 0,.int .i64 0,.int .i64 0,.int .i64 0,.int .i64 0] 102) trivial qz qB)) V [5,4,2,1] [102,101,0] (fun _=>rfl) (fun _=>rfl) fun τ a w F G=>?_
 try dsimp only [RS.sub,SF.sub,CF.sub,csub,Anc.sub,List.map,zCF,Zw,rTx,ZJ,ZT,Zn,rOp,Zim] at G
 generalize τ 2=v2,τ 4=v4 at G
 refine Za (Ya (rZ G (qe 2 101 r1 r1 (qR rr (qf (oP (Zv8 g p hsm) func67 (Args.two (.pagg .t) .t)) r2 qz (qO rr qZ)))) V [6,5,4,1] [102,101,0] fun G=>(Ya (Ya ?_))))
 refine rZ G (qR rr (qu Ycw r1 (qf (o_eql .t qi) r1 qz qZ))) V [12,6,5,4,1] [102,101,0] fun G=>?_
 refine Zc G rfl (fun hc0=>?_) (fun hc0=>?_)
 ·have hr0:(ZaS g p fun _=>true) = []:=YR (by have h9:=Yt hc0;omega)
  have hw:ZuG p (ZaS g p fun _=>true)=ZfG:=Yf hr0
  have hok:false=decide ((ZaS g p fun _=>true)≠[]):=by rw [hr0];rfl
  refine Ya (rZ G (qf (oB [] [.int .i64 0,.slice none 0 0,.int .i64 0,.int .i64 0,.int .i64 0,.int .i64 0,.int .i64 0] [(0,1),(1,1),(2,5)] .nil) trivial qz (qs 7 102 r2 r1 qB)) V [6,5,4,1] [102,101,0] fun G=>(Yh (Zk ?_)))
  refine Z6 hfr G rfl (.cl 102 true 7 rfl rfl (.tmp rfl .nil)) (.two (.aggLe rfl (by rw [hw];exact ⟨.refl,.nilSl,.refl,.refl,.refl,.refl,.refl,tv⟩)) (.bool hok))
 have hne:(ZaS g p fun _=>true)≠[]:=fun k=>(by have h9:=YJ hc0;rw [k] at h9;simp at h9)
 have hw:ZuG p (ZaS g p fun _=>true) = ⟨p,[],Nn (ZaS g p fun _=>true) 0⟩:=Yc hne
 have hok:true=decide ((ZaS g p fun _=>true)≠[]):=(Yag hne).symm
 refine Ye (Za (Ya (Ze G (qR rr (qR rr (qf (o_indexAddr_sl (sz:=5) (.mk Ycw kr) (by intro x;rfl) .t qi (by decide) (by have:=Yay.2 hne;omega)) r1 qz (qf (oR true 5 .t) r1 qz (qf (oB [(0,.tmp 14),(2,.tmp 17)] [.int .i64 0,.slice none 0 0,.int .i64 0,.int .i64 0,.int .i64 0,.int .i64 0,.int .i64 0] [(0,1),(1,1),(2,5)] (.one rfl .t one_int kr (.agg rfl .t kr kr .nil))) r2 qz (qs 7 102 r2 r1 qB)))))) V [5,4] [102,101,0] rfl rfl fun a w F G=>?_)))
 try simp only [Yb] at G
 refine Za (Yh (Z6 hfr G rfl (.cl 102 true 7 rfl rfl (.tmp rfl .nil)) (.two (.aggLe rfl (by rw [hw];exact ⟨.refl,.nilSl,.refl,.refl,.refl,.refl,.refl,tv⟩)) (.bool hok))))
theorem ZmD {g:Zr} (hs:Za9 g) (mask:Int):(ZQ ((Zac g).filter (kindOk mask))).length≤4096:=by
 by_cases hg:ZW g
 ·have h1:(ZQ ((Zac g).filter (kindOk mask))).length≤(g.txs.map TxD.id).length:=List.Nodup.length_le_of_subset ((ZV _).1.imp fun h=>Int.ne_of_lt h) fun x hx=>by
   obtain ⟨e,he,hx⟩:=Zaq.1 hx
   obtain ⟨h3,h4⟩:=Zml hg ((Zd4 hg).1 (YV.1 he).1)
   rcases hx with rfl | rfl
   ·obtain ⟨t,h5,h6,_⟩:=h3;exact Yv.2 ⟨t,h5,h6⟩
   ·obtain ⟨t,h5,h6,_⟩:=h4;exact Yv.2 ⟨t,h5,h6⟩
  have h2:=hs.1.1
  rw [YH] at h1;omega
 ·rw [ZlK hg];exact Yx _
def Zo2 (g:Zr) (p:Int) (R:List Zg):ZqS:=if p=2∨p=3 then ZuG p (ZaS g p fun _=>true) else ZuQ p R
def okH (g:Zr) (p:Int) (R:List Zg):Bool:=if p=2∨p=3 then decide ((ZaS g p fun _=>true)≠[]) else decide (R≠[])
theorem Ztk (g:Zr) (hsm:Za9 g) (hAR:(wwC PT1 g).length+(rdC PT1 g).length≤100000) (p:Int) (R:List Zg) (hR:Zeh (Zac g) p R):FnP prog 12 [.agg (Zw g),.int .i64 p] (.tup [.agg (ZkJ (Zo2 g p R)),.bool (okH g p R)]):=by
 refine FnP.mk func12 rfl ntmps12 rfl fun B a w F V hfr G=>?_
 have hel:=Zhm (A:=wwC PT1 g) (R:=rdC PT1 g)
 have hkl:=ZfQ (ZgC (wwC PT1 g) (rdC PT1 g))
 have hal:(ZgC (wwC PT1 g) (rdC PT1 g)).length≤100000:=by unfold ZgC;rw [Yd,YH];exact hAR
 have hpl:(Zac g).length≤100000:=by unfold Zac;rw [YH];omega
 obtain ⟨rb,hrb⟩:=ZnE (ZeR (Zac g) (ZZ p).1 (ZZ p).2)
 refine Ya (Zb G (qx 101 r1 (qf (oH [.int .i64 0,.slice none 0 0,.int .i64 0,.int .i64 0,.int .i64 0,.int .i64 0,.int .i64 0] 102) trivial qz qB)) V [5,4,2,1] [102,101,0] (fun _=>rfl) (fun _=>rfl) fun τ a w F G=>?_)
 try dsimp only [RS.sub,SF.sub,CF.sub,csub,Anc.sub,List.map,zCF,Zw,rTx,ZJ,ZT,Zn,rOp,Zim,rHv,Zq] at G
 generalize τ 2=v2,τ 4=v4 at G
 refine Za (Ya (Ya (rZ G (qR rr qZ) V [6,5,4,2,1] [102,101,0] fun G=>(Yg (Ya (Ya ?_))))))
 refine rZ G (qf (o_eql .t qi) r1 qz (qO rr qZ)) V [7,6,5,4,2,1] [102,101,0] fun G=>?_
 refine Zc G rfl (fun hc0=>?_) (fun hc0=>?_)
 ·have h23:(p=2∨p=3):=(by have h9:=hc0;simp at h9;omega)
  have hw:Zo2 g p R=ZuG p (ZaS g p fun _=>true):=Yf h23
  have hok:decide ((ZaS g p fun _=>true)≠[])=okH g p R:=(Yf h23).symm
  refine Ye (Za (Zc G rfl (fun hc1=>?_) (fun hc1=>?_)))
  ·have h23:(p=2∨p=3):=(by have h9:=hc1;simp at h9;omega)
   have hw:Zo2 g p R=ZuG p (ZaS g p fun _=>true):=Yf h23
   have hok:decide ((ZaS g p fun _=>true)≠[])=okH g p R:=(Yf h23).symm
   refine Ya (rZ G (qe 2 101 r1 r1 (qR rr (qf (oP (Zo9 g p hsm) func35 (Args.two (.pagg .t) .t)) r2 qz (qf (Zh .t rfl) r1 qz (qf (Zh .t rfl) r1 qz (qf (oA 7 102 .is (.conv .t .agg)) r2 r1 (qO rr qZ))))))) V [5,4,2,1] [102,101,0] fun G=>(Yh (ZA (Zk ?_))))
   refine Z6 hfr G rfl (.cl 102 true 7 rfl rfl (.tmp rfl .nil)) (.two (.aggU rfl (by rw [hw] <;> rfl)) (.bool hok))
  exact Bool.noConfusion (hc0.symm.trans hc1)
 refine rZ G (qf (o_eql .t qi) r1 qz (qO rr qZ)) V [7,5,4,2,1] [102,101,0] fun G=>?_
 refine Zc G rfl (fun hc2=>?_) (fun hc2=>?_)
 ·have h23:(p=2∨p=3):=(by have h9:=hc2;simp at h9;omega)
  have hw:Zo2 g p R=ZuG p (ZaS g p fun _=>true):=Yf h23
  have hok:decide ((ZaS g p fun _=>true)≠[])=okH g p R:=(Yf h23).symm
  refine Ya (rZ G (qe 2 101 r1 r1 (qR rr (qf (oP (Zo9 g p hsm) func35 (Args.two (.pagg .t) .t)) r2 qz (qf (Zh .t rfl) r1 qz (qf (Zh .t rfl) r1 qz (qf (oA 7 102 .is (.conv .t .agg)) r2 r1 (qO rr qZ))))))) V [5,4,2,1] [102,101,0] fun G=>(Yh (ZA (Zk ?_))))
  refine Z6 hfr G rfl (.cl 102 true 7 rfl rfl (.tmp rfl .nil)) (.two (.aggU rfl (by rw [hw] <;> rfl)) (.bool hok))
 have hn23:¬ (p=2∨p=3):=by rintro (h9 | h9);exact YJ hc0 h9;exact YJ hc2 h9
 have hw:Zo2 g p R=ZuQ p R:=Yc hn23
 have hok:decide (R≠[])=okH g p R:=(Yc hn23).symm
 refine Ye (Zi (Za (Ya (rZ G (qe 2 101 r1 r1 (qf (oP (ZpL g hsm (Y1 hAR (by decide))) func38 (Args.one (.pagg .t))) r1 qz (qf (oP (ZpN _ (by have h9:=hpl;unfold Zac at h9;rw [YH] at h9;exact Y1 h9 (by decide))) func37 (Args.one .t)) r1 qz (qR rr (qf (oP (ZtK (Zac g) p hpl (fun _=>ZmD hsm _) R hR) func36 (Args.two .t .t)) r2 qz (qf (Zh .t rfl) r1 qz (qf (Zh .t rfl) r1 qz (qf (oA 7 102 .is (.conv .t .agg)) r2 r1 (qO rr qZ))))))))) V [5,4] [102,101,0] fun G=>Yh ?_))))
 refine Z6 hfr G rfl (.cl 102 true 7 rfl rfl (.tmp rfl .nil)) (.two (.aggU rfl (by rw [hw] <;> rfl)) (.bool hok))
theorem Zod (x y:List Zg):FnP prog 94 [.sl Zq x,.sl Zq y] (.bool (decide (x=y))):=by
 refine FnP.mk func94 rfl ntmps94 rfl fun B a w F V hfr G=>?_
 have hxl:=Sat.lenSl G (i:=0) rfl
 refine Ya (rZ G qB V [4,1,0] [0] fun G=>(Ya (Ya ?_)))
 refine rZ G (qR rr (qu Yce r1 (qR rr (qu Yce r1 (qf (o_neq .t .t) r2 qz qZ))))) V [10,4,1,0] [0] fun G=>?_
 refine Zc G rfl (fun hc0=>?_) (fun hc0=>?_)
 ·have hg:false=decide (x=y):=by
    rw [Yaq,YD]
    intro h
    subst h
    simp at hc0
  refine Ya (rZ G qB V [4,1,0] [0] fun G=>(Yh (Zk ?_)))
  refine Zs hfr G rfl rfl rfl (.bool hg)
 have hl:x.length=y.length:=by simp at hc0;omega
 refine Ye (Za (Ya (Ya (rZ G (qR rr (qu Yce r1 (qJ qZ))) V [13,12,4,1,0] [0] fun G=>Yg ?_))))
 obtain ⟨F,G⟩:=G.nM [13,12,1,0] [0]
 refine Zbf (σ:=Nat) (fun s=>(⟨[(0,.pv (.sl Zq x)),(1,.pv (.sl Zq y)),(12,.pv (.int .i64 x.length)),(13,.pv (.int .i64 s))],[(0,frame B)]⟩:En)) (fun s=>s≤x.length ∧ ∀ j,j<s→Nn x j=Nn y j) (fun s=>x.length - s) 0 G ⟨Yx _,fun j hj=>absurd hj (Y2 j)⟩ ?_
 clear G;intro i a w F hC G
 try dsimp only at hC
 try dsimp only at G
 obtain ⟨hi,hq⟩:=hC
 refine Ya (rZ G (qL r2) V [14,13,12,1,0] [0] fun G=>Ya ?_)
 refine Zc G rfl (fun hc1=>?_) (fun hc1=>?_)
 ·have hil:i<x.length:=by simp at hc1;omega
  refine Ye (Za (Ya (Yg (Ya (rZ G (qR rr (qO rr qZ)) V [13,12,5,1,0] [0] fun G=>Ya ?_)))))
  refine Zv G (qR rr (qR rr (qy 4 Yce r2 (qf (oR true 4 .t) r1 qz (qR rr (qR rr (qy 4 Yce r2 (qf (oR true 4 .t) r1 qz (qf (o_neqS (ks:=[true,true,true,true]) kr .t .t (.int (.int (.int (.int .nil))))) r2 qz qZ))))))))) V [24,13,12,1,0] [0] rfl rfl fun a w F G=>?_
  try dsimp only [List.map,xD,xE,xT,xU,ldSF] at G
  refine Za (Zc G rfl (fun hc2=>?_) (fun hc2=>?_))
  ·have hg:false=decide (x=y):=by
     rw [Yaq,YD]
     intro h
     subst h
     simp at hc2
   refine Ya (rZ G qB V [13,12,4,1,0] [0] fun G=>(Yh (ZA (Zk (Zk (ZA (Zk ?_)))))))
   refine Zs hfr G rfl rfl rfl (.bool hg)
  rw [Yb] at hc2
  have hqi:Nn x i=Nn y i:=by simp only [Zvs] at hc2;simpa using hc2
  refine Ye (Zi (Za (rZ G (qp r1 (qR rr qZ)) V [13,12,1,0] [0] fun G=>?_)))
  replace G:=G.ent (i:=13) (s':=.pv (.int .i64 ((i+1:Nat):Int))) rfl (.int (Zd ow))
  obtain ⟨F,G⟩:=G.nM [13,12,1,0] [0]
  exact ⟨i+1,F,⟨by omega,fun j hj=>by rcases Y0 (Y7 hj) with h | h;exact hq j h;rw [h];exact hqi⟩,G,by omega⟩
 have hg:true=decide (x=y):=by
   rw [Yaq,Yq]
   exact ZaV hl fun j hj=>hq j (by simp at hc1;omega)
 refine Yw (Zj (Zj (Zo (Za (Ya (rZ G qB V [4] [0] fun G=>Yh ?_))))))
 refine Zs hfr G rfl rfl rfl (.bool hg)
theorem Znm (x y:List Zg):FnP prog 48 [.sl Zq x,.sl Zq y] (.bool (decide (x=y))):=by
 refine FnP.mk func48 rfl ntmps48 rfl fun B a w F V hfr G=>Ya ?_
 refine rZ G qB V [4,1,0] [0] fun G=>Ya ?_
 refine rZ G (qR rr (qR rr (qf (oP (Zod x y) func94 (Args.two .t .t)) r2 qz (qO rr qZ)))) V [4] [0] fun G=>Yh ?_
 refine Zs hfr G rfl rfl rfl .refl
theorem Zsv (x y:ZqS):(((decide (x.phen=y.phen)) && decide (x.read=y.read)) && decide (x.walk=y.walk))=decide (x=y):=by
 obtain ⟨a,b,c⟩:=x
 obtain ⟨d,e,f⟩:=y
 rw [Yai]
 simp only [Yr,Yq,ZqS.mk.injEq]
 constructor
 ·rintro ⟨⟨h1,h2⟩,h3⟩;exact ⟨h1,h3,h2⟩
 ·rintro ⟨h1,h2,h3⟩;exact ⟨⟨h1,h3⟩,h2⟩
theorem Zuz (x y:ZqS):FnP prog 22 [.agg (ZkJ x),.agg (ZkJ y)] (.bool (decide (x=y))):=by
 refine FnP.mk func22 rfl ntmps22 rfl fun B a w F V hfr G=>Ya ?_
 refine Zb G (qx 101 r1 (qx 102 r1 qB)) V [4,3,2] [102,101,0] (fun _=>rfl) (fun _=>rfl) fun τ a w F G=>?_
 try dsimp only [RS.sub,SF.sub,CF.sub,csub,Anc.sub,List.map,zCF,Zq,ZkJ] at G
 generalize τ 2=v2,τ 3=v3 at G
 refine Za (Ya (rZ G (qg 0 101 r1 r1 (qa 101 r1 r1 (qg 0 102 r1 r1 (qa 102 r1 r1 (qf (o_eql .t .t) r2 qz (qR rr (qv 2 101 rfl r2 r1 (qk rfl (fun h=>oL true 5 101 (.w h .adr)) r2 r1 (qv 2 102 rfl r2 r1 (qk rfl (fun h=>oL true 5 102 (.w h .adr)) r2 r1 (qk rfl (fun h=>ZvA (ks:=[true,true,true,true,true]) kr (.w h) (.w h) (.int (.int (.int (.int (.int .nil)))))) r3 qz (qf (ZE .t .t) r2 qz (qR rr (qv 1 101 rfl r2 r1 (qw 101 rfl r2 r1 (qv 1 102 rfl r2 r1 (qw 102 rfl r2 r1 (qk rfl (fun h=>oP (Znm x.walk y.walk) func48 (Args.two (.w h) (.w h))) r3 qz (qf (ZE .t .t) r2 qz (qO rr qZ)))))))))))))))))))) V [4] [0] fun G=>Yh ?_))
 refine Zs hfr G rfl rfl rfl (.bool (by rw [← Zsv];exact Y4 (fun b=>(decide (x.phen=y.phen) && b) && decide (x.walk=y.walk)) (Zuu rfl)))
def ZjR (k:Int):List UInt8:=if k=1 then [119,119] else if k=2 then [119,114] else if k=3 then [114,119] else [120]
def Zwb (k:Int):Int:=IntKind.wrap .i64 (1*2 ^ min (IntKind.wrap .u64 k).toNat (IntKind.bits .i64))
def ZjJ (l:List Zg):Int:=l.foldl (fun n e=>if 1≤e.kind∧e.kind≤3 then bits .or .i64 n (Zwb e.kind) else n) 0
theorem ZgR {l:List Zg} {i:Nat} (h:i<l.length):ZjJ (l.take (i+1))=if 1≤(Nn l i).kind∧(Nn l i).kind≤3 then bits .or .i64 (ZjJ (l.take i)) (Zwb (Nn l i).kind) else ZjJ (l.take i):=by
 rw [Zp h];unfold ZjJ;rw [Yat];rfl
def Zj6 (g:Zr) (id:Int):Bool:=(Z5 g.txs id).isSome && ((Z5 g.txs id).getD zeroT).done
def Zey (g:Zr) (v:Zb0):Bool:=decide (v.tx=0) || (Zj6 g v.tx && decide (v.nth=((((Z5 g.txs v.tx).getD zeroT).ops.filter fun o=>!o.read && decide (o.key=v.key)).length:Nat)))
def Zj3 (g:Zr) (key u x:Int):Bool:=(Zef (getO g.orders key) u).2 && decide ((Zef (getO g.orders key) u).1=x)
theorem Zhz {g:Zr} (hs:Za1 g.txs) (id:Int):((Z5 g.txs id).getD zeroT).ops.length≤1000000:=by
 cases hf:Z5 g.txs id with
 | none=>simp [zeroT]
 | some t=>exact Y1 (hs.2 _ (findT_mem hf).1) (by decide)
theorem ZpM (k:Int):FnP prog 74 [.int .i64 k] (.bs (ZjR k)):=by
 refine FnP.mk func74 rfl ntmps74 rfl fun B a w F V hfr G=>Ya ?_
 refine rZ G (qf (oN (.cs kr)) trivial qz qZ) V [2,0] [0] fun G=>(Ya (Ya ?_))
 refine rZ G (qR rr qZ) V [3,2] [0] fun G=>(Yg (Ya ?_))
 refine rZ G (qf (o_eql .t qi) r1 qz (qO rr qZ)) V [4,3,2] [0] fun G=>?_
 refine Zc G rfl (fun hc0=>?_) (fun hc0=>?_)
 ·refine Ya (rZ G (qf (oN (.cs kr)) trivial qz qZ) V [2] [0] fun G=>(Yh (ZA (Zk ?_))))
  refine Zs hfr G rfl rfl rfl (.bs (by unfold ZjR;simp_all))
 refine Ya (rZ G (qf (o_eql .t qi) r1 qz (qO rr qZ)) V [6,3,2] [0] fun G=>?_)
 refine Zc G rfl (fun hc1=>?_) (fun hc1=>?_)
 ·refine Ya (rZ G (qf (oN (.cs kr)) trivial qz qZ) V [2] [0] fun G=>(Yh (ZA (Zk ?_))))
  refine Zs hfr G rfl rfl rfl (.bs (by unfold ZjR;simp_all))
 refine Ya (rZ G (qf (o_eql .t qi) r1 qz (qO rr qZ)) V [8,2] [0] fun G=>?_)
 refine Zc G rfl (fun hc2=>?_) (fun hc2=>?_)
 ·refine Ya (rZ G (qf (oN (.cs kr)) trivial qz qZ) V [2] [0] fun G=>(Yh (ZA (Zk ?_))))
  refine Zs hfr G rfl rfl rfl (.bs (by unfold ZjR;simp_all))
 refine Ye (Zi (Za (Ya (rZ G (qf (oN (.cs kr)) trivial qz qZ) V [2] [0] fun G=>Yh ?_))))
 refine Zs hfr G rfl rfl rfl (.bs (by unfold ZjR;simp_all))
theorem ZuD (l:List Zg) (hl:l.length≤1000000):FnP prog 71 [.sl Zq l] (.int .i64 (ZjJ l)):=by
 refine FnP.mk func71 rfl ntmps71 rfl fun B a w F V hfr G=>Ya ?_
 refine rZ G (qI qZ) V [2,0] [0] fun G=>Ya ?_
 refine rZ G (qI qZ) V [3,2,0] [0] fun G=>(Ya (Ya ?_))
 refine rZ G (qR rr (qu Yce r1 (qJ qZ))) V [8,7,6,3,2] [0] fun G=>Yg ?_
 refine Zl (σ:=(Nat)) [2,6,7] [0] (fun s=>[(8,.pv (.int .i64 (s:Int))),(3,.pv (.int .i64 (ZjJ (l.take s))))]) (fun s=>[]) (fun s=>s≤l.length∧(True)) (fun s=>l.length - s) (0) G ⟨rfl,rfl,rfl,rfl,rfl,tv⟩ ⟨rfl,tv⟩ ⟨Yx _,tv⟩ ?_
 clear G;intro i a w F hC G
 try dsimp only at hC
 obtain ⟨F,G⟩:=G.nM [8,7,6,3,2] [0]
 try dsimp only at G
 obtain ⟨hi,hq⟩:=hC
 refine Ya (rZ G (qL r2) V [9,8,7,6,3,2] [0] fun G=>Ya ?_)
 refine Zc G rfl (fun hc0=>?_) (fun hc0=>?_)
 ·have hil:i<l.length:=by simp at hc0;omega
  refine Ye (Za (Ya (Yg (Ya (Zb G (qy 4 Yce r2 (qf (oR true 4 .t) r1 qz (qf (oH [.int .i64 0,.int .i64 0,.int .i64 0,.int .i64 0] 101) trivial qz (qS 4 101 r2 r1 qZ)))) V [8,7,6,5,3,2] [101,0] (fun _=>rfl) (fun _=>rfl) fun τ a w F G=>?_)))))
  try dsimp only [RS.sub,SF.sub,CF.sub,csub,Anc.sub,List.map,Zf,xL,xM,Nat.reduceAdd,xD,xE,xT,xU,xC,xN,zCF,ldSF,Zq] at G
  generalize τ 5=v5 at G
  try simp only [Yb] at G
  refine Za (Ya (rZ G (qg 2 101 r1 r1 (qa 101 r1 r1 (qf (Zbq .t qi) r1 qz (qR rr (qv 2 101 rfl r2 r1 (qw 101 rfl r2 r1 (qk rfl (fun h=>Zkz (.w h) qi) r2 qz (qf (ZE .t .t) r2 qz qZ)))))))) V [19,8,7,6,5,3,2] [101,0] fun G=>?_))
  refine Zc G rfl (fun hc1=>?_) (fun hc1=>?_)
  ·have hyn:1≤(Nn l i).kind∧(Nn l i).kind≤3:=by simpa using hc1
   refine Ze G (qR rr (qg 2 101 r1 r1 (qa 101 r1 r1 (qf (o_conv Yck kr .t) r1 qz (qf (o_shl qi .t  (by rw [Zak];omega)) r1 qz (qf (ZsG .t .t) r2 qz (qO rr qZ))))))) V [8,7,6,3,2] [0] rfl rfl fun a w F G=>Zi (Za ?_)
   refine rZ G (qp r1 (qR rr qZ)) V [8,7,6,3,2] [0] fun G=>?_
   replace G:=G.ent (i:=8) (s':=.pv (.int .i64 ((i+1:Nat):Int))) rfl (.int (Zd ow))
   replace G:=G.ent (i:=3) (s':=.pv (.int .i64 (ZjJ (l.take (i+1))))) rfl (.int (by rw [ZgR hil,Yf hyn];rfl))
   obtain ⟨F,G⟩:=G.nM [7,6,2,3,8] [0]
   exact ⟨(i+1),F,⟨by omega,tv⟩,G,by omega⟩
  have hyn:¬ (1≤(Nn l i).kind∧(Nn l i).kind≤3):=by have h9:=hc1;simp at h9;omega
  refine Ye (Zi (Za (rZ G (qp r1 (qR rr qZ)) V [8,7,6,3,2] [0] fun G=>?_)))
  replace G:=G.ent (i:=8) (s':=.pv (.int .i64 ((i+1:Nat):Int))) rfl (.int (Zd ow))
  replace G:=G.ent (i:=3) (s':=.pv (.int .i64 (ZjJ (l.take (i+1))))) rfl (.int (by rw [ZgR hil,Yc hyn]))
  obtain ⟨F,G⟩:=G.nM [7,6,2,3,8] [0]
  exact ⟨(i+1),F,⟨by omega,tv⟩,G,by omega⟩
 have hil:i=l.length:=by simp at hc0;omega
 refine Yw (Zj (Zj (Zo (Za (Ya (rZ G (qR rr (qO rr qZ)) V [2] [0] fun G=>Yh ?_))))))
 refine Zs hfr G rfl rfl rfl (.int (by rw [hil,YA]))
theorem Zkn (g:Zr) (id:Int) (hs:Za1 g.txs):FnP prog 80 [.agg (Zw g),.int .i64 id] (.tup [.agg (rTx ((Z5 g.txs id).getD zeroT)),.bool (Zj6 g id)]):=by
 refine FnP.mk func80 rfl ntmps80 rfl fun B a w F V hfr G=>Ya ?_
 refine Zb G (qx 101 r1 (qf (oH [.int .i64 0,.bool false,.slice none 0 0] 102) trivial qz qB)) V [5,4,2,1] [102,101,0] (fun _=>rfl) (fun _=>rfl) fun τ a w F G=>?_
 try dsimp only [RS.sub,SF.sub,CF.sub,csub,Anc.sub,List.map,zCF,Zw,rTx,ZJ,ZT,Zn,rOp] at G
 generalize τ 2=v2,τ 4=v4 at G
 refine Za (Ya (Zb G (qg 0 101 r1 r1 (qf (oL true 2 101 .adr) r1 r1 (qR rr (qf (oP (ZsL g id hs) func28 (Args.two (.pagg .t) .t)) r2 qz (qR rr (qf (Zh .t rfl) r1 qz (qf (Zh .t rfl) r1 qz (qf (oH [.int .i64 0,.bool false,.slice none 0 0] 103) trivial qz (qf (oA 3 103 .same (.conv .t .agg)) r2 r1 (qO rr qZ)))))))))) V [7,6,5,4] [103,102,101,0] (fun _=>rfl) (fun _=>rfl) fun τ a w F G=>?_))
 try dsimp only [RS.sub,SF.sub,CF.sub,csub,Anc.sub,List.map,Zf,xL,xM,Nat.reduceAdd,xD,xE,xT,xU,xC,xN,zCF,ldSF,Zw,rTx,ZJ,ZT,Zn,rOp] at G
 generalize τ 6=v6 at G
 refine Za (Ya (Zv G (qe 3 103 r1 r1 (qR rr (qR rr (qv 1 103 rfl r2 r1 (qw 103 rfl r2 r1 (qf (ZE .t .t) r2 qz (qs 3 102 r2 r1 (qO rr qZ)))))))) V [5,4] [103,102,101,0] rfl rfl fun a w F G=>?_))
 try dsimp only [List.map,Zf,xL,xM,Nat.reduceAdd,xD,xE,xT,xU,xC,xN,zCF,ldSF,Zw,rTx,ZJ,ZT,Zn,rOp] at G
 refine Za (Yh (Z6 hfr G rfl (.cl 102 true 3 rfl rfl (.tmp rfl .nil)) (.two (.aggU rfl rfl) (.bool rfl))))
theorem ZoL (g:Zr) (v:Zb0) (hs:Za1 g.txs):FnP prog 84 [.agg (Zw g),.agg (ZT v)] (.bool (Zey g v)):=by
 refine FnP.mk func84 rfl ntmps84 rfl fun B a w F V hfr G=>Ya ?_
 refine Zb G (qx 101 r1 (qx 102 r1 qB)) V [4,3,2] [102,101,0] (fun _=>rfl) (fun _=>rfl) fun τ a w F G=>?_
 try dsimp only [RS.sub,SF.sub,CF.sub,csub,Anc.sub,List.map,zCF,Zw,rTx,ZJ,ZT,Zn,rOp] at G
 generalize τ 2=v2,τ 3=v3 at G
 refine Za (Ya (Ya (rZ G (qg 0 102 r1 r1 (qa 102 r1 r1 (qf (o_eql .t qi) r1 qz qZ))) V [9,4,3,2] [102,101,0] fun G=>?_)))
 refine Zc G rfl (fun hc0=>?_) (fun hc0=>?_)
 ·have hg:true=Zey g v:=by unfold Zey;rw [Yt hc0];rfl
  refine Ya (rZ G qB V [4,3,2] [102,101,0] fun G=>(Yh (Zk ?_)))
  refine Zs hfr G rfl rfl rfl (.bool hg)
 have hv0:v.tx≠0:=YJ hc0
 have hg:(Zj6 g v.tx && decide (v.nth=((((Z5 g.txs v.tx).getD zeroT).ops.filter fun o=>!o.read && decide (o.key=v.key)).length:Nat)))=Zey g v:=by unfold Zey;rw [YF hv0,YbI]
 refine Ye (Za (Ya (Zb G (qe 2 101 r1 r1 (qg 0 102 r1 r1 (qa 102 r1 r1 (qf (oP (Zkn g v.tx hs) func80 (Args.two (.pagg .t) .t)) r2 qz (qR rr (qf (Zh .t rfl) r1 qz (qf (Zh .t rfl) r1 qz (qf (oH [.int .i64 0,.bool false,.slice none 0 0] 103) trivial qz (qf (oA 3 103 .same (.conv .t .agg)) r2 r1 (qO rr qZ)))))))))) V [6,5,4,3] [103,102,101,0] (fun _=>rfl) (fun _=>rfl) fun τ a w F G=>?_)))
 try dsimp only [RS.sub,SF.sub,CF.sub,csub,Anc.sub,List.map,Zf,xL,xM,Nat.reduceAdd,xD,xE,xT,xU,xC,xN,zCF,ldSF,Zw,rTx,ZJ,ZT,Zn,rOp] at G
 generalize τ 5=v5 at G
 refine Za (Ya (Zv G (qR rr (qR rr (qv 2 102 rfl r2 r1 (qw 102 rfl r2 r1 (qk rfl (fun h=>oL true 3 103 .is) r2 r1 (qv 1 102 rfl r2 r1 (qw 102 rfl r2 r1 (qk rfl (fun h=>oP (Zek ((Z5 g.txs v.tx).getD zeroT) v.key (Zhz hs _)) func29 (Args.two (.pagg (.w h)) (.w h))) r3 qz (qk rfl (fun h=>o_eql (.w h) (.w h)) r3 qz (qf (ZE .t .t) r2 qz (qO rr qZ))))))))))) V [4] [103,102,101,0] rfl rfl fun a w F G=>?_))
 try dsimp only [List.map,xD,xE,xT,xU,ldSF,Zw,rTx,ZJ,ZT,Zn,rOp] at G
 refine Za (Yh (Zs hfr G rfl rfl rfl (.bool hg)))
theorem ZoF (g:Zr) (key u x:Int) (hs:Za9 g):FnP prog 81 [.agg (Zw g),.int .i64 key,.int .i64 u,.int .i64 x] (.bool (Zj3 g key u x)):=by
 refine FnP.mk func81 rfl ntmps81 rfl fun B a w F V hfr G=>Ya ?_
 refine Zb G (qx 101 r1 qB) V [8,4,3,2,1] [101,0] (fun _=>rfl) (fun _=>rfl) fun τ a w F G=>?_
 try dsimp only [RS.sub,SF.sub,CF.sub,csub,Anc.sub,List.map,zCF,Zw,rTx,ZJ,ZT,Zn,rOp] at G
 generalize τ 4=v4 at G
 refine Za (Ya (rZ G (qg 0 101 r1 r1 (qf (oL true 2 101 .adr) r1 r1 (qR rr (qf (oP (ZqL g key hs.2) func16 (Args.two (.pagg .t) .t)) r2 qz (qR rr (qf (oP (Ztc (getO g.orders key) u) func15 (Args.two .t .t)) r2 qz (qR rr (qf (Zh .t rfl) r1 qz (qf (Zh .t rfl) r1 qz (qO rr (qO rr qZ))))))))))) V [10,9,8,3] [101,0] fun G=>Ya ?_))
 refine rZ G (qR rr (qR rr (qm rfl rfl rfl rfl (qm rfl rfl rfl rfl (qk rfl (fun h=>o_eql (.w h) (.w h)) r3 qz (qf (ZE .t .t) r2 qz (qO rr qZ))))))) V [8] [101,0] fun G=>Yh ?_
 refine Zs hfr G rfl rfl rfl (.bool rfl)
def Zqu (u:Nat):List Int:=if h:u=0 then [] else Zqu (u / 10) ++ [((48+u % 10:Nat):Int)]
 termination_by u
 decreasing_by omega
def ZiN (u:Nat):List Int:=Zqu (u / 10) ++ [((48+u % 10:Nat):Int)]
theorem ZoZ:Zqu 0 = []:=by unfold Zqu;simp
theorem Zlx {u:Nat} (h:u≠0):Zqu u=ZiN u:=by unfold Zqu ZiN;simp [h]
def Ze0 (n:Int):List UInt8:=if n<0 then 45 :: (ZiN n.natAbs).map toB else (ZiN n.natAbs).map toB
structure Zgt (u0 i u:Nat) (l:List Int):Prop where
 hl:l.length=20
 hi:i≤20
 hu:u<10 ^ i
 hb:u≤18446744073709551615
 ok:(i=20∧u=u0)∨(i<20∧Zqu u++l.drop i=ZiN u0)
theorem Zgt.start {u0:Nat} (h:u0≤18446744073709551615):Zgt u0 20 u0 [0,0,0,0,0,0,0,0,0,0,0,0,0,0,0,0,0,0,0,0]:=⟨rfl,YL _,by omega,h,.inl ⟨rfl,rfl⟩⟩
theorem Zgt.pos {u0 i u:Nat} {l:List Int} (h:Zgt u0 i u l) (hc:i=20∨0<u):1≤i:=by
 rcases hc with hc | hc
 ·omega
 ·rcases Nat.eq_zero_or_pos i with h0 | h0
  ·have:=h.hu;rw [h0] at this;omega
  ·exact h0
theorem Zgt.next {u0 i u:Nat} {l:List Int} (h:Zgt u0 i u l) (hc:i=20∨0<u):Zgt u0 (i - 1) (u / 10) (l.set (i - 1) ((48+u % 10:Nat):Int)):=by
 have h1:=h.pos hc
 have hi:=h.hi
 have hl:=h.hl
 have hd:(l.set (i - 1) ((48+u % 10:Nat):Int)).drop (i - 1)=((48+u % 10:Nat):Int) :: l.drop i:=by
  rw [Ya8 (by rw [YI];omega),Yba,show i - 1+1=i by omega,List.drop_set_of_lt ow]
 refine ⟨by rw [YI];exact h.hl,by omega,?_,by have:=h.hb;omega,.inr ⟨by omega,?_⟩⟩
 ·have:=h.hu
  rw [show i=(i - 1)+1 by omega,Nat.pow_succ] at this
  omega
 ·rw [hd]
  have e:Zqu (u / 10)++((48+u % 10:Nat):Int) :: l.drop i=ZiN u++l.drop i:=by
   unfold ZiN;simp
  rw [e]
  rcases h.ok with ⟨h2,h3⟩ | ⟨h2,h3⟩
  ·rw [h2,h3,Ya4 ow];simp
  ·rw [← Zlx ow];exact h3
theorem Zgt.done {u0 i u:Nat} {l:List Int} (h:Zgt u0 i u l) (h1:i≠20) (h2:u=0):l.drop i=ZiN u0:=by
 rcases h.ok with ⟨h3,_⟩ | ⟨_,h3⟩
 ·exact absurd h3 h1
 ·rw [h2,ZoZ] at h3;simpa using h3
theorem Zlm (u:Nat) (hu:u≤18446744073709551615):FnP prog 122 [.int .u64 (u:Int)] (.bs ((ZiN u).map toB)):=by
 refine FnP.mk func122 rfl ntmps122 rfl fun B a w F V hfr G=>Ya ?_
 refine rZ G (qf (oN (.cs kr)) trivial qz qZ) V [2,0] [0] fun G=>Ya ?_
 refine Zb G (qf (oH [.int .u8 0,.int .u8 0,.int .u8 0,.int .u8 0,.int .u8 0,.int .u8 0,.int .u8 0,.int .u8 0,.int .u8 0,.int .u8 0,.int .u8 0,.int .u8 0,.int .u8 0,.int .u8 0,.int .u8 0,.int .u8 0,.int .u8 0,.int .u8 0,.int .u8 0,.int .u8 0] 101) trivial qz qZ) V [3,2,0] [101,0] (fun _=>rfl) (fun _=>rfl) fun τ a w F G=>?_
 try dsimp only [RS.sub,SF.sub,CF.sub,csub,Anc.sub,List.map,zCF] at G
 generalize τ 3=v3 at G
 refine Za (Ya (rZ G (qI qZ) V [4,3,2,0] [101,0] fun G=>(Ya (Yg ?_))))
 replace G:=G.turn 101 rfl (r':=.ob (.val v3) (ZnB 237 (fun x=>PV.int .u8 x) [0,0,0,0,0,0,0,0,0,0,0,0,0,0,0,0,0,0,0,0])) (fun τ w f y h=>ZhQ (f:=(fun x=>PV.int .u8 x)) (l:=[0,0,0,0,0,0,0,0,0,0,0,0,0,0,0,0,0,0,0,0]) τ w f y h)
 obtain ⟨F,G⟩:=G.nM [4,3,0] [101,0]
 refine Zbf (σ:=(Nat×Nat×List Int)) (fun s=>(⟨[(0,.pv (.int .u64 s.2.1)),(3,.pv (.is v3)),(4,.pv (.int .i64 s.1))],[(0,frame B),(101,.ob (.val v3) (ZnB 237 (fun x=>PV.int .u8 x) s.2.2))]⟩:En)) (fun s=>Zgt u s.1 s.2.1 s.2.2) (fun s=>s.1) (20,u,[0,0,0,0,0,0,0,0,0,0,0,0,0,0,0,0,0,0,0,0]) G (Zgt.start hu) ?_
 clear G;intro s a w F hC G
 obtain ⟨i,x,l⟩:=s
 try dsimp only at hC
 try dsimp only at G
 have hl:=hC.hl
 have hi:=hC.hi
 have hbx:=hC.hb
 try dsimp only at hl hi hbx
 refine Ya (Ya (rZ G (qR rr (qf (o_eql .t qi) r1 qz (qR rr (qm rfl rfl rfl rfl (qk rfl (fun h=>ZaP (.w h) qi) r2 qz (qf (Zal .t .t) r2 qz qZ)))))) V [10,4,3,0] [101,0] fun G=>?_))
 refine Zc G rfl (fun hc0=>?_) (fun hc0=>?_)
 ·have hcc:i=20∨0<x:=by simp only [YaM,Yq] at hc0;omega
  have hip:=hC.pos hcc
  try dsimp only at hip
  refine Ye (Za (Yg (Ya (Ze G (qR rr (qf (o_sub .t qi) r1 qz (qO rr qZ))) V [4,3,0] [101,0] rfl rfl fun a w F G=>?_))))
  rw [show IntKind.wrap .i64 ((i:Int) - 1)=((i - 1:Nat):Int) by rw [Zz ow];omega] at G
  refine Za (Ya (Ze G (qR rr (qR rr (qf (Zvf .t qi (by decide)) r1 qz (qf (o_add qi .t) r1 qz (qf (o_conv underlying5 kr .t) r1 qz (qf (Zb5 (sz:=1) 101 underlying237 kr .is .t ow ow) r2 r1 (qf (Zno 101 .adr .t one_int kr (by rw [hl];omega)) r2 r1 qZ))))))) V [4,3,0] [101,0] rfl rfl fun a w F G=>?_))
  rw [show 0+((i - 1:Nat):Int).toNat*1=i - 1 by omega] at G
  rw [show IntKind.wrap .u8 (IntKind.wrap .u64 (48+(x:Int).tmod 10))=((48+x % 10:Nat):Int) by rw [Zt5,Zak,Int.tmod_eq_emod_of_nonneg ow];omega] at G
  refine Za (Ze G (qR rr (qf (ZvW .t qi (by decide)) r1 qz (qO rr qZ))) V [4,3,0] [101,0] rfl rfl fun a w F G=>Zi (Za ?_))
  replace G:=G.ent (i:=0) (s':=.pv (.int .u64 ((x / 10:Nat):Int))) rfl (.int (by rw [Zak,Int.tdiv_eq_ediv_of_nonneg ow];omega))
  obtain ⟨F,G⟩:=G.nM [4,3,0] [101,0]
  exact ⟨(i - 1,x / 10,l.set (i - 1) ((48+x % 10:Nat):Int)),F,(hC.next hcc),G,by dsimp only;omega⟩
 have hcc:i≠20∧x=0:=by simp only [YbS,YD] at hc0;omega
 have hdd:=hC.done hcc.1 hcc.2
 refine Yw (Zj (Zj (Zo (Za (Ya ?_)))))
 replace G:=G.turn 101 rfl Zh1
 obtain ⟨F,G⟩:=G.giveRef 101 3 rfl rfl (Zk0 _ _)
 rw [Zl7] at G
 obtain ⟨F,G⟩:=G.nM [10,4,3,0] [0]
 refine rZ G (qR rr (qf (Zkl (sz:=1) (R:=rB) (l:=l) underlying237 kr (by intro x;rfl) hl (by decide) .t .t ow ow) r2 qz (qf (o_conv_sl_bs underlying113 underlying5 Yct .t) r1 qz (qO rr qZ)))) V [2] [0] fun G=>Yh ?_
 refine Zs hfr G rfl rfl rfl (.bs (by rw [Yb,hdd]))
theorem Zld:∀ (k u:Nat),u<10 ^ k→(Zqu u).length≤k
 | 0,u,h=>by
  have:u=0:=by simpa using h
  rw [this,ZoZ];simp
 | k+1,u,h=>by
  by_cases h0:u=0
  ·rw [h0,ZoZ];simp
  ·rw [Zlx h0]
   unfold ZiN
   have:=Zld k (u / 10) (by rw [Nat.pow_succ] at h;omega)
   rw [Yd]
   simp only [Yl,Yy]
   omega
theorem ZlA {u:Nat} (h:u≤18446744073709551615):(ZiN u).length≤20:=by
 have:=Zld 19 (u / 10) ow
 unfold ZiN
 rw [Yd]
 simp only [Yl,Yy]
 omega
theorem ZhY {n:Int} (h : -9223372036854775808≤n∧n≤9223372036854775807):n.natAbs≤18446744073709551615:=by omega
structure Zwh (u0 i x:Nat) (l:List UInt8):Prop where
 hl:l.length=i
 hi:i≤20
 hx:x<10 ^ (20 - i)
 hb:x≤18446744073709551615
 ok:(i=0∧x=u0∧l = [])∨(0<i∧(Zqu x).map toB++l=(ZiN u0).map toB)
theorem Zi4 (n:Int):FnP prog 73 [.int .i64 n] (.bs (Ze0 n)):=by
 refine FnP.mk func73 rfl ntmps73 rfl fun B a w F V hfr G=>?_
 have hn:=Zoy (G.range (i:=0) rfl)
 have hz:=ZlA (ZhY hn)
 refine Ya (rZ G (qf (oN (.cs kr)) trivial qz qZ) V [2,0] [0] fun G=>(Ya (Ya ?_)))
 refine rZ G (qR rr (qf (ZaA .t qi) r1 qz qZ)) V [4,2,0] [0] fun G=>?_
 refine Zc G rfl (fun hc0=>?_) (fun hc0=>?_)
 ·have hb:n<0:=Yt hc0
  have hu:IntKind.wrap .u64 (0 - IntKind.wrap .u64 n)=(n.natAbs:Int):=by rw [Zak,Zak];omega
  have hg:Ze0 n=45 :: (ZiN n.natAbs).map toB:=Yf hb
  refine Ya (rZ G (qR rr (qf (o_conv Ycu kr .t) r1 qz (qf (Zv2 .t) r1 qz (qf (oP (Zlm n.natAbs (ZhY hn)) func122 (Args.one (.conv .t (.int hu)))) r1 qz (qf (Zbx (.cs kr) .t (by simp only [Yl,Yy,YH];omega)) r1 qz (qO rr qZ)))))) V [2,0] [0] fun G=>(Yh (Zk ?_)))
  refine Zs hfr G rfl rfl rfl (.bs (by rw [hg];try rfl))
 have hb:¬ n<0:=YJ hc0
 have hu:IntKind.wrap .u64 n=(n.natAbs:Int):=by rw [Zak];omega
 have hg:Ze0 n=(ZiN n.natAbs).map toB:=Yc hb
 refine Ye (Za (Ya (rZ G (qR rr (qf (o_conv Ycu kr .t) r1 qz (qf (oP (Zlm n.natAbs (ZhY hn)) func122 (Args.one (.conv .t (.int hu)))) r1 qz (qO rr qZ)))) V [2] [0] fun G=>Yh ?_)))
 refine Zs hfr G rfl rfl rfl (.bs (by rw [hg];try rfl))
end Go.Proofs.YtlkpllemoepamaaGreat
