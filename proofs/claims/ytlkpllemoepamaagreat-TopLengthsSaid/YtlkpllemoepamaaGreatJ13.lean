/- Laws and walks. No condition beyond what each says. -/
import Derived.Test.YtlkpllemoepamaaGreatJ12
namespace Go.Proofs.YtlkpllemoepamaaGreat
open Go Go.Gm Tryz
set_option linter.unusedVariables false
set_option linter.unusedSimpArgs false
set_option maxHeartbeats 4000000
set_option maxRecDepth 8000
theorem Zmh {A:Zu→Prop} {m:Zu→Bool} {κ:Zu→Int} {i:Int} {dv ev:List Int} {out:Int→List Zu} (ho:∀ u x,x ∈ out u ↔ A x∧x.src=u) (hs:∀ u,(out u).Pairwise fun a b=>κ a<κ b) (hL:Zb8 A m i dv ev) {need:Bool} {way:List Zu} (hb:Zdd A m κ need i way)
  {b:Int} (hbv:ZO (ZF m dv ev need) (out i)=b) :
  (¬ (0<b∧(way = []∨b<way.length))→Zdd A m κ need (i+1) way) ∧
  (0<b∧(way = []∨b<way.length)→ZbS A m κ i b.toNat need [] i b.toNat need∧ZaT out (ZF m dv ev) m i b.toNat i need≠[]∧Zdd A m κ need (i+1) (ZaT out (ZF m dv ev) m i b.toNat i need)∧(ZaT out (ZF m dv ev) m i b.toNat i need).length=b.toNat):=by
 have hsh:=Ziq (ZF m dv ev need) (out i)
 rw [hbv] at hsh
 obtain ⟨s1,s2⟩:=hL.short (ho i) hsh
 have h0:=hsh.1
 constructor
 ·intro hn
  refine hb.keep (fun hw w hc=>?_) fun hw w hc=>?_
  ·exact s1 (by rcases Int.lt_or_eq_of_le h0 with k | k;exact absurd ⟨k,.inl hw⟩ hn;exact k.symm) w hc.1 hc.2.1 hc.2.2
  ·by_cases k:0<b
   ·have:=(s2 k).2 w hc.1 hc.2.1 hc.2.2
    have:¬ b<way.length:=fun h=>hn ⟨k,.inr h⟩
    omega
   ·exact absurd hc.2.2 (s1 ow w hc.1 hc.2.1)
 ·rintro ⟨k,hw⟩
  have hnear:=s2 k
  have hk:0<b.toNat:=by omega
  obtain ⟨w1,w2,w3⟩:=ZoV ho hs hL hk hnear
  refine ⟨ZbS.start hk hnear,w1.1,hb.turn w1 (fun w hc=>?_) (fun w hc hl=>w3 w hc ow) fun hne=>?_,w2⟩
  ·rw [w2];exact hnear.2 w hc.1 hc.2.1 hc.2.2
  ·rw [w2]
   rcases hw with hw | hw
   ·exact absurd hw hne
   ·omega
theorem ZpI {m:Zu→Bool} {dv ev:List Int} {need:Bool} {x:Zu} {N:Int} (hx:0≤x.dst∧x.dst<dv.length∧x.dst<ev.length) (h1:∀ z ∈ dv,-1≤z∧z≤N) (h2:∀ z ∈ ev,-1≤z∧z≤N) : -1≤ZF m dv ev need x∧ZF m dv ev need x≤N:=by
 unfold ZF
 split
 ·rw [Zct hx.1];exact h2 _ (nth_mem ow)
 ·rw [Zct hx.1];exact h1 _ (nth_mem ow)
theorem ZpY {n:Nat} {d:List Int} (hd:d.length=2*n) {z:Int} (h:z ∈ ZaA n d):z ∈ d:=by
 obtain ⟨u,h1,rfl⟩:=Yv.1 h
 exact nth_mem (by have:=YaX.1 h1;omega)
theorem Zqw {A:Zu→Prop} {i:Int} {a b:Int} : ∀ {w:List Zu},ZdL A i a w b → ∀ x ∈ w,A x
 | y :: w,h,x,hx=>by
  rcases Yk.1 hx with rfl | hx
  ·exact h.1
  ·exact Zqw h.2.2.2 x hx
theorem Zlg {l:List Ze} : (ZZ l).length≤l.length:=by
 have h:=Zfo (l.map Ze.key)
 rwa [YF] at h
def ZqP (lf:List Ze) (mk:Int) (E:List Zu):Prop:=E.length≤1000000∧(∀ x,(x ∈ E∧ofB mk x.kind=true) ↔ ∃ e,e ∈ lf∧ZbO (rkI (ZJ lf)) (rkI (ZZ lf)) e=x)∧(∀ (ms:Int) (need:Bool) (j:Int) (w:List Zu),CwA (fun x=>x ∈ E∧ofB mk x.kind=true) (fun y=>ofB ms y.kind) need j w→0≤j)∧Zcv (· ∈ lf) (rkI (ZJ lf)) (rkI (ZZ lf)) (ZhV (ZJ lf) (ZZ lf))
theorem ZmX {l lf:List Ze} {mk:Int} (hlf:l.filter (kindOk mk)=lf) (hll:lf.length≤100000) (hn:(ZJ lf).length≤4096) (hk:(ZZ lf).length≤100000) :
  ∃ E,ZqP lf mk E∧Zcz (ZJ lf).length E (ZM (ZJ lf).length (lf.map (Zcy (ZJ lf) (ZZ lf)))).1 (ZM (ZJ lf).length (lf.map (Zcy (ZJ lf) (ZZ lf)))).2.1:=by
 have hr:=Zla (l:=lf) hn ow
 have i1:Zdp (ZJ lf):=(ZP _).1
 have hright:∀ e ∈ lf,Zaz (ZJ lf).length (Zcy (ZJ lf) (ZZ lf) e)=true∧ofB mk e.kind=true:=fun e he=>by
  have a1:=(Zaw i1 (Zah.2 ⟨e,he,.inl rfl⟩)).1
  have a2:=(Zaw i1 (Zah.2 ⟨e,he,.inr rfl⟩)).1
  have a3:=hr.keyr e.key ⟨e,he,rfl⟩
  have hm:e ∈ l.filter (kindOk mk):=by rw [hlf];exact he
  have h4:=(YV.1 hm).2
  unfold kindOk at h4
  simp only [Yr,Yu] at h4
  refine ⟨ZY.2 ⟨⟨?_,?_⟩,⟨?_,?_⟩,h4.1,?_,?_⟩,h4.2⟩
  ·exact YaF _
  ·exact YbU.2 a1
  ·exact YaF _
  ·exact YbU.2 a2
  ·exact a3.1
  ·show rkI (ZZ lf) e.key≤1048575;omega
 have hmem:∀ x,x ∈ (lf.map (Zcy (ZJ lf) (ZZ lf))).foldl (Zlz (ZJ lf).length) [] ↔ ∃ e,e ∈ lf∧ZbO (rkI (ZJ lf)) (rkI (ZZ lf)) e=x:=fun x=>by
  rw [ZkR]
  constructor
  ·rintro (h | ⟨h,_⟩)
   ·cases h
   ·obtain ⟨e,he,h2⟩:=Yv.1 h
    exact ⟨e,he,h2⟩
  ·rintro ⟨e,he,rfl⟩
   exact .inr ⟨Yv.2 ⟨e,he,rfl⟩,(hright e he).1⟩
 have hA:∀ x,(x ∈ (lf.map (Zcy (ZJ lf) (ZZ lf))).foldl (Zlz (ZJ lf).length) []∧ofB mk x.kind=true) ↔ ∃ e,e ∈ lf∧ZbO (rkI (ZJ lf)) (rkI (ZZ lf)) e=x:=fun x=>by
  rw [hmem]
  constructor
  ·exact fun h=>h.1
  ·rintro ⟨e,he,rfl⟩
   exact ⟨⟨e,he,rfl⟩,(hright e he).2⟩
 refine ⟨_,⟨?_,hA,fun ms need j w hc=>?_,hr⟩,(Zig hn _).1⟩
 ·have h9:=Zhp (n:=(ZJ lf).length) (lf.map (Zcy (ZJ lf) (ZZ lf))) []
  rw [YF,Yy] at h9
  omega
 ·obtain ⟨c1,c2,_⟩:=hc
  cases w with
  | nil=>exact absurd rfl c1
  | cons x w=>
   obtain ⟨h1,h2,_⟩:=c2
   obtain ⟨e,_,rfl⟩:=(hA x).1 h1
   rw [← h2]
   exact YaF _
theorem Zm5 {E:List Zu} {O I:List (List Z4)} {mk ms mn mm:Int} (h:Zcz O.length E O I) (hbn:∀ k,1≤k→k≤3→ofB mn k=(ofB mk k && !ofB ms k)) (hbm:∀ k,1≤k→k≤3→ofB mm k=(ofB mk k && ofB ms k)) {i:Nat} (hi:i<O.length) (hn:O.length≤4096) :
  ∃ D D2,Zc5 O.length (fun x=>adjO I mk x) (i:Int) (i:Int) D∧Zc5 (2*O.length) (Zdi (fun x=>adjO I mn x) (fun x=>adjO I mm x)) (2*(i:Int)) (2*(i:Int)) D2∧Zb8 (fun x=>x ∈ E∧ofB mk x.kind=true) (fun y=>ofB ms y.kind) (i:Int) D (ZaA O.length D2) ∧
   D.length=O.length∧(ZaA O.length D2).length=O.length∧(∀ z ∈ D,-1≤z∧z≤90000) ∧ ∀ z ∈ ZaA O.length D2,-1≤z∧z≤90000:=by
 obtain ⟨D,hD⟩:=ZnQ O.length (fun x=>adjO I mk x) (i:Int) (i:Int)
 obtain ⟨D2,hD2⟩:=ZnQ (2*O.length) (Zdi (fun x=>adjO I mn x) (fun x=>adjO I mm x)) (2*(i:Int)) (2*(i:Int))
 have hk:∀ y ∈ E,1≤y.kind∧y.kind≤3:=fun y hy=>(ZY.1 (h.ok y hy)).2.2.1
 refine ⟨D,D2,hD,hD2,Zlh (fun x hx=>(ZY.1 (h.ok x hx.1)).2.1) (prev:=fun x=>adjO I mk x) (fun x u=>?_) (p:=fun x=>adjO I mn x) (q:=fun x=>adjO I mm x) (fun x u=>?_) (fun x u=>?_) hD hD2,hD.1,Zax,fun z hz=>?_,fun z hz=>?_⟩
 ·rw [(h.prev mk x).2 u]
  constructor
  ·rintro ⟨y,y1,y2,y3,y4⟩;exact ⟨y,⟨y1,y3⟩,y2,y4⟩
  ·rintro ⟨y,⟨y1,y3⟩,y2,y4⟩;exact ⟨y,y1,y2,y3,y4⟩
 ·rw [(h.prev mn x).2 u]
  constructor
  ·rintro ⟨y,y1,y2,y3,y4⟩
   obtain ⟨k1,k2⟩:=hk y y1
   rw [hbn _ k1 k2,Yr,Yai] at y3
   exact ⟨y,⟨y1,y3.1⟩,y3.2,y2,y4⟩
  ·rintro ⟨y,⟨y1,y3⟩,y5,y2,y4⟩
   obtain ⟨k1,k2⟩:=hk y y1
   exact ⟨y,y1,y2,by rw [hbn _ k1 k2,y3,y5];rfl,y4⟩
 ·rw [(h.prev mm x).2 u]
  constructor
  ·rintro ⟨y,y1,y2,y3,y4⟩
   obtain ⟨k1,k2⟩:=hk y y1
   rw [hbm _ k1 k2,Yr] at y3
   exact ⟨y,⟨y1,y3.1⟩,y3.2,y2,y4⟩
  ·rintro ⟨y,⟨y1,y3⟩,y5,y2,y4⟩
   obtain ⟨k1,k2⟩:=hk y y1
   exact ⟨y,y1,y2,by rw [hbm _ k1 k2,y3,y5];rfl,y4⟩
 ·have:=hD.le (h.prevR mk).1 ⟨by omega,by omega⟩ z hz
  omega
 ·have:=hD2.le (ZmM (h.prevR mn).1 (h.prevR mm).1) ⟨by omega,by omega⟩ z (ZpY hD2.1 hz)
  omega
theorem Zh0 {lf:List Ze} {mk ms:Int} {E:List Zu} {need:Bool} {i:Nat} {way:List Zu} {R:List Ze} (hE:ZqP lf mk E) (hb:Zdd (fun x=>x ∈ E∧ofB mk x.kind=true) (fun y=>ofB ms y.kind) ZlV need (i:Int) way) (hi:i=(ZJ lf).length)
  (hR:(R = [] ∧ ∀ j w,¬ CwE (· ∈ lf) (fun e=>ofB ms e.kind) need j w)∨Za9 (· ∈ lf) (fun e=>ofB ms e.kind) need R) :
  (way = []→[] = R)∧(way≠[]→(∀ x ∈ way,(0≤x.src∧x.src<((ZJ lf).length:Int))∧(0≤x.dst∧x.dst<((ZJ lf).length:Int))∧0≤x.label∧x.label<((ZZ lf).length:Int))∧way.map (ZhV (ZJ lf) (ZZ lf))=R∧R≠[]):=by
 obtain ⟨_,hA,_,hr⟩:=hE
 have i1:Zdp (ZJ lf):=(ZP _).1
 have i2:Zdp (ZZ lf):=(ZP _).1
 rw [show (fun x=>x ∈ E∧ofB mk x.kind=true)=fun x=>∃ e,e ∈ lf∧ZbO (rkI (ZJ lf)) (rkI (ZZ lf)) e=x from funext fun x=>propext (hA x)] at hb
 obtain ⟨f1,f2⟩:=hr.first (n:=(i:Int)) (fun a ha=>by rw [hi];exact YbU.2 (Zaw i1 (Zah.2 ha)).1) hb
 constructor
 ·intro hw
  rcases hR with ⟨h1,_⟩ | ⟨j,h1,_⟩
  ·exact h1.symm
  ·exact absurd h1 (f1 hw j R)
 ·intro hw
  have hF:=f2 hw
  refine ⟨fun x hx=>?_,?_⟩
  ·obtain ⟨j,_,hc,_⟩:=hb.2 hw
   obtain ⟨e,he,rfl⟩:=Zqw hc.2.1 x hx
   have a1:=(Zaw i1 (Zah.2 ⟨e,he,.inl rfl⟩)).1
   have a2:=(Zaw i1 (Zah.2 ⟨e,he,.inr rfl⟩)).1
   have a3:=(Zaw i2 (ZbT.2 ⟨e,he,rfl⟩)).1
   exact ⟨⟨YaF _,YbU.2 a1⟩,⟨YaF _,YbU.2 a2⟩,YaF _,YbU.2 a3⟩
  ·have hF2:Za9 (· ∈ lf) (fun e=>ofB ms e.kind) need (way.map (ZhV (ZJ lf) (ZZ lf))):=hF
   rcases hR with ⟨_,h2⟩ | h2
   ·obtain ⟨j,h3,_⟩:=hF2
    exact absurd h3 (h2 j _)
   ·refine ⟨hF2.one h2,?_⟩
    obtain ⟨j,h3,_⟩:=h2
    exact h3.1
theorem Zlc (l lf:List Ze) (mask must mk ms mn mm:Int) (hmk:bits .and .i64 mask 14=mk) (hms:bits .and .i64 must 14=ms) (hmn:bits .andNot .i64 mk ms=mn) (hmm:bits .and .i64 mk ms=mm) (hne:mn≠mm) (hbn:∀ k,1≤k→k≤3→ofB mn k=(ofB mk k && !ofB ms k)) (hbm:∀ k,1≤k→k≤3→ofB mm k=(ofB mk k && ofB ms k)) (hl:l.length≤100000) (hlf:l.filter (kindOk mk)=lf) (hn0:(ZJ lf).length≤4096) (R:List Ze) (hR:(R = [] ∧ ∀ j w,¬ CwE (· ∈ lf) (fun e=>ofB ms e.kind) (!decide (ms=0)) j w)∨Za9 (· ∈ lf) (fun e=>ofB ms e.kind) (!decide (ms=0)) R):FnP prog 76 [.sl Zn l,.int .i64 mask,.int .i64 must] (.tup [.sl Zn R,.int .i64 (if R = [] then 3 else 0)]):=by
 refine FnP.mk func76 rfl ntmps76 rfl fun B a w F Z hfr G=>?_
 have hll:lf.length≤100000:=by rw [← hlf];exact Y6 (Y3 _ _) hl
 have hn:=hn0
 have hkl:(ZZ lf).length≤100000:=Y6 Zlg hll
 refine Ya (Zb G (qf (Znb 101 .t one_int) r1 qz (qC (qI qZ))) Z [7,6,4,2,0] [101,0] (fun _=>rfl) (fun _=>rfl) fun τ a w F G=>?_)
 try dsimp only [RS.sub,SF.sub,CF.sub,csub,Anc.sub,List.map,zCF,Zo,Zn,ZaB] at G
 generalize τ 4=v4 at G
 refine Za (Ya (Zg G (qf (oL false 1 101 .is) r1 r1 (qf (Zde .t qi) r1 qz (qR rr (qf (Zde .t qi) r1 qz (qf (Zbd 101 .is .t one_int kr kr) r2 r1 (qO rr qZ)))))) Z [7,6,4,2,0] [101,0] rfl rfl fun a w F G=>?_))
 rw [hmk,hms] at G
 obtain ⟨F,G⟩:=G.giveRef 101 4 rfl rfl rfl
 obtain ⟨F,G⟩:=G.nM [7,6,4,2,0] [0]
 try dsimp only [Go.Gm.unCF] at G
 refine Za (Ya ?_)
 replace G:=G.fresh 102 rfl
 refine Zb G (qR rr (qf (ZaE 102 (Zpo l ow) func124 rfl kr (Args.one .t) pvOne1) r1 r1 (qf (Zbk (Args.one .t)) r1 qz (qf (ZpW 23 102 (fun v=>Zsl _ l ow (fun e=>!kindOk mk e) 125 f125 [.ref [.int .i64 mk]] func125 rfl kr (fun e=>ZpB e mk)) func123 rfl kr (Zk7.two .same (.of .t)) pvOne1) r2 r1 (qO rr qZ))))) Z [7,6,4,2,0] [102,0] (fun _=>rfl) (fun _=>rfl) fun τ a w F G=>?_
 try dsimp only [RS.sub,SF.sub,CF.sub,csub,Anc.sub,List.map,Zo,Zn,ZaB] at G
 generalize τ 25=v25 at G
 simp only [Bool.not_not] at G
 rw [hlf] at G
 refine Za (Ya ?_)
 obtain ⟨F,G⟩:=G.give 102 0 rfl rfl
 obtain ⟨F,G⟩:=G.nM [7,6,4,2,0] [0]
 refine Zb G (qR rr (qf (oP (Zrq lf hll) func126 (Args.one .t)) r1 qz (qf (oH [.slice none 0 0,.slice none 0 0] 103) trivial qz (qf (oA 2 103 .same (.conv .t .agg)) r2 r1 qZ)))) Z [8,7,6,4,2,0] [103,0] (fun _=>rfl) (fun _=>rfl) fun τ a w F G=>?_
 try dsimp only [RS.sub,SF.sub,CF.sub,csub,Anc.sub,List.map,Zf,xL,xM,Nat.reduceAdd,xD,xE,xT,xU,xC,xN,zCF,Zo,Zn,ZaB] at G
 generalize τ 8=v8 at G
 refine Za (Ya (Zg G (qR rr (qe 2 103 r1 r1 (qf (oP (Zry lf (ZJ lf) (ZZ lf) hll hn0 ow ow (ZP _).1 (ZP _).1) func127 (Args.two .t (.pagg .t))) r2 qz (qR rr (qf (Zh .t rfl) r1 qz (qf (Zh .t rfl) r1 qz (qO rr (qO rr qZ)))))))) Z [10,9,8,7,6,4,2] [103,0] rfl rfl fun a w F G=>?_))
 obtain ⟨q,hq0⟩:∃ q,q=ZM (ZJ lf).length (lf.map (Zcy (ZJ lf) (ZZ lf))):=⟨_,rfl⟩
 rw [← hq0] at G
 obtain ⟨E,hE0,hD0⟩:=ZmX hlf hll hn hkl
 rw [← hq0] at hD0
 have hoq:=hD0.ol
 have hD:Zcz q.1.length E q.1 q.2.1:=by rw [hoq];exact hD0
 have hEl:=hE0.1
 have hO:∀ l ∈ q.1,l.length≤1000000:=fun l hl=>(hD.on.r hEl l hl).1
 have hn:q.1.length≤4096:=by omega
 have hnil:=hE0.2.2.1 ms (!decide (ms=0))
 refine Za (Ya (Ya (rZ G (qR rr (qf (o_neq .t qi) r1 qz qZ)) Z [35,10,9,8,7,6,4,2] [103,0] fun G=>?_)))
 refine Zc G rfl (fun hc0=>?_) (fun hc0=>?_)
 ·simp at hc0
 refine Yf (Za (Ya (rZ G (qC qZ) Z [11,9,8,7,6,4,2] [103,0] fun G=>(Ya (Ya ?_)))))
 refine rZ G (qg 0 103 r1 r1 (qa 103 r1 r1 (qu YbZ r1 (qJ qZ)))) Z [40,39,11,9,8,7,6,4,2] [103,0] fun G=>Yg ?_
 refine Zl (σ:=(Nat)×(List Zu)) [2,4,6,7,8,9,39] [0,103] (fun s=>[(40,.pv (.int .i64 (s.1:Int))),(11,.pv (if s.2 = [] then PV.is (.slice none 0 0) else PV.sl ZaB s.2))]) (fun s=>[]) (fun s=>s.1≤(ZJ lf).length∧(Zdd (fun x=>x ∈ E∧ofB mk x.kind=true) (fun y:Zu=>ofB ms y.kind) ZlV (!decide (ms=0)) (s.1:Int) s.2∧s.2.length≤90001)) (fun s=>(ZJ lf).length - s.1) ((0),([])) G ⟨rfl,rfl,rfl,rfl,rfl,rfl,rfl,rfl,rfl,tv⟩ ⟨rfl,rfl,tv⟩ ⟨Yw _,⟨Zdd.nil _ _ _ _ hnil,Yw _⟩⟩ ?_
 clear G;intro s a w F hC G
 obtain ⟨i,way⟩:=s
 try dsimp only at hC
 obtain ⟨F,G⟩:=G.nM [40,39,11,9,8,7,6,4,2] [103,0]
 try dsimp only at G
 obtain ⟨hi,hq⟩:=hC
 obtain ⟨hq,hwy⟩:=hq
 refine Ya (rZ G (qL r2) Z [41,40,39,11,9,8,7,6,4,2] [103,0] fun G=>Ya ?_)
 refine Zc G rfl (fun hc1=>?_) (fun hc1=>?_)
 ·have hil:i<(ZJ lf).length:=by simp at hc1;omega
  obtain ⟨D,D2,hDD,hDD2,hL,hlD,hlE,hb1,hb2_⟩:=Zm5 hD hbn hbm (i:=i) ow hn
  have hst:=Zmh (need:=(!decide (ms=0))) (hD.outM mk) (hD.outP mk) hL hq (b:=(ZO (ZF (fun y:Zu=>ofB ms y.kind) D (ZaA q.1.length D2) (!decide (ms=0))) (Z5 q.1 mk (i:Int)))) rfl
  have hlv:∀ x ∈ Z5 q.1 mk (i:Int),-1≤(ZF (fun y:Zu=>ofB ms y.kind) D (ZaA q.1.length D2) (!decide (ms=0))) x∧(ZF (fun y:Zu=>ofB ms y.kind) D (ZaA q.1.length D2) (!decide (ms=0))) x≤90000:=fun x hx=>ZpI (by have h9:=(hD.outR mk _ x hx).1;rw [hlD,hlE];omega) hb1 hb2_
  have hsb:=Zh7 (f:=(ZF (fun y:Zu=>ofB ms y.kind) D (ZaA q.1.length D2) (!decide (ms=0)))) (l:=Z5 q.1 mk (i:Int)) (N:=90001) ow fun x hx=>(by have:=hlv x hx;omega)
  refine Yf (Za (Ya (Yg (Ya (rZ G (qR rr (qO rr qZ)) Z [40,39,12,11,9,8,7,6,4,2] [103,0] fun G=>Ya ?_)))))
  refine Zb G (qR rr (qf (oR false 1 .t) r1 qz (qR rr (qR rr (qf (oP (ZtR E q.1 q.2.1 q.2.2 mk ms (i:Int) mn mm hmn hmm hne hD ow hn hEl (YaF _) ow D D2 hDD hDD2) func128 (Args.four .t .t .t .t)) r4 qz (qf (oH [.pointer none,.int .i64 0,.int .i64 0,.slice none 0 0,.slice none 0 0] 104) trivial qz (qf (oA 5 104 .same (.conv .t .agg)) r2 r1 qZ))))))) Z [40,39,13,12,11,9,8,7,6,4,2] [104,103,0] (fun _=>rfl) (fun _=>rfl) fun τ a w F G=>?_
  try dsimp only [RS.sub,SF.sub,CF.sub,csub,Anc.sub,List.map,Zf,xL,xM,Nat.reduceAdd,xD,xE,xT,xU,xC,xN,zCF,ldSF,Zo,Zn,ZaB] at G
  generalize τ 13=v13 at G
  refine Za (Ya (rZ G (qe 5 104 r1 r1 (qR rr (qR rr (qf (o_neq .t qi) r1 qz (qf (oP (Zrn q.1 q.2.1 q.2.2 mk ms D (ZaA q.1.length D2) (i:Int) (!decide (ms=0)) hO (fun u x hx=>by have h9:=(hD.outR mk u x hx).1;rw [hlD,hlE];omega) (fun u=>Y6 (hD.outL mk u) hEl) hlv) func129 (Args.three (.pagg .t) .t .t)) r3 qz (qO rr qZ)))))) Z [40,39,14,13,12,11,9,8,7,6,4,2] [104,103,0] fun G=>Ya ?_))
  by_cases hfk:way = []
  ·rw [Ye hfk] at G
   refine Zg G (qR rr (qf (ZaV .t qi) r1 qz (qR rr (qm rfl rfl rfl rfl (qk rfl (fun h=>Zgm Yb5 (.w h)) r2 qz (qk rfl (fun h=>oM (.w h)) r2 qz (Zv.cons (Zan.cond2 rfl rfl (fun h=>ZaS .t (by rfl))) r2 qz (Zv.cons (Zan.cond2 rfl rfl (fun h=>ZaS .t (by rfl))) r2 qz (Zv.cons (Zan.cond2 rfl rfl (fun h=>Zor Yb5 (.w h))) r2 qz (Zv.cons (Zan.cond2 rfl rfl (fun h=>ZaD (.w h) (.w h))) r3 qz (qk rfl (fun h=>Zab (.w h) (.wc h)) r3 qz (qf (ZH .t .t) r2 qz qZ)))))))))))) Z [64,40,39,14,13,12,11,9,8,7,6,4,2] [104,103,0] rfl rfl fun a w F G=>?_
   try dsimp only [Zo,Zn,ZaB] at G
   refine Za (Zc G rfl (fun hc2=>?_) (fun hc2=>?_))
   ·have hyes:0<(ZO (ZF (fun y:Zu=>ofB ms y.kind) D (ZaA q.1.length D2) (!decide (ms=0))) (Z5 q.1 mk (i:Int)))∧(way = []∨(ZO (ZF (fun y:Zu=>ofB ms y.kind) D (ZaA q.1.length D2) (!decide (ms=0))) (Z5 q.1 mk (i:Int)))<way.length):=by have h9:=hc2;rw [Yr,Yu] at h9;exact ⟨h9.1,.inl hfk⟩
    obtain ⟨hW0,hwne,hb2,hwl2⟩:=hst.2 hyes
    have hkn:(ZO (ZF (fun y:Zu=>ofB ms y.kind) D (ZaA q.1.length D2) (!decide (ms=0))) (Z5 q.1 mk (i:Int)))=(((ZO (ZF (fun y:Zu=>ofB ms y.kind) D (ZaA q.1.length D2) (!decide (ms=0))) (Z5 q.1 mk (i:Int))).toNat:Nat):Int):=by omega
    have hwy2:(ZaT (Z5 q.1 mk) (ZF (fun y:Zu=>ofB ms y.kind) D (ZaA q.1.length D2)) (fun y:Zu=>ofB ms y.kind) (i:Int) (ZO (ZF (fun y:Zu=>ofB ms y.kind) D (ZaA q.1.length D2) (!decide (ms=0))) (Z5 q.1 mk (i:Int))).toNat (i:Int) (!decide (ms=0))).length≤90001:=by omega
    refine Zg G (qe 5 104 r1 r1 (qR rr (qR rr (qR rr (qf (o_neq .t qi) r1 qz (qf (oP (ZqW E q.1 q.2.1 q.2.2 mk ms D (ZaA q.1.length D2) (i:Int) (ZO (ZF (fun y:Zu=>ofB ms y.kind) D (ZaA q.1.length D2) (!decide (ms=0))) (Z5 q.1 mk (i:Int))).toNat (!decide (ms=0)) ow hD hL hW0 hO (fun u x hx=>by have h9:=(hD.outR mk u x hx).1;rw [hlD,hlE];omega) (fun u=>Y6 (hD.outL mk u) hEl)) func130 (Args.four (.pagg .t) .t (.conv .t (Ent.int hkn)) .t)) r4 qz (qO rr qZ))))))) Z [40,39,11,9,8,7,6,4,2] [104,103,0] rfl rfl fun a w F G=>Zk (Za ?_)
    refine rZ G (qp r1 (qR rr qZ)) Z [40,39,11,9,8,7,6,4,2] [104,103,0] fun G=>?_
    replace G:=G.ent (i:=40) (s':=.pv (.int .i64 ((i+1:Nat):Int))) rfl (.int (Zd ow))
    replace G:=G.ent (i:=11) (s':=.pv (if (ZaT (Z5 q.1 mk) (ZF (fun y:Zu=>ofB ms y.kind) D (ZaA q.1.length D2)) (fun y:Zu=>ofB ms y.kind) (i:Int) (ZO (ZF (fun y:Zu=>ofB ms y.kind) D (ZaA q.1.length D2) (!decide (ms=0))) (Z5 q.1 mk (i:Int))).toNat (i:Int) (!decide (ms=0))) = [] then PV.is (.slice none 0 0) else PV.sl ZaB (ZaT (Z5 q.1 mk) (ZF (fun y:Zu=>ofB ms y.kind) D (ZaA q.1.length D2)) (fun y:Zu=>ofB ms y.kind) (i:Int) (ZO (ZF (fun y:Zu=>ofB ms y.kind) D (ZaA q.1.length D2) (!decide (ms=0))) (Z5 q.1 mk (i:Int))).toNat (i:Int) (!decide (ms=0))))) rfl ((by rw [Yb hwne];exact Ent.refl))
    obtain ⟨F,G⟩:=G.nM [39,9,8,7,6,4,2,11,40] [103,0]
    exact ⟨((i+1),((ZaT (Z5 q.1 mk) (ZF (fun y:Zu=>ofB ms y.kind) D (ZaA q.1.length D2)) (fun y:Zu=>ofB ms y.kind) (i:Int) (ZO (ZF (fun y:Zu=>ofB ms y.kind) D (ZaA q.1.length D2) (!decide (ms=0))) (Z5 q.1 mk (i:Int))).toNat (i:Int) (!decide (ms=0))))),F,⟨by omega,⟨by have h9:((i+1:Nat):Int)=(i:Int)+1:=ow;rw [h9];exact hb2,hwy2⟩⟩,G,by omega⟩
   have hno:¬ (0<(ZO (ZF (fun y:Zu=>ofB ms y.kind) D (ZaA q.1.length D2) (!decide (ms=0))) (Z5 q.1 mk (i:Int)))∧(way = []∨(ZO (ZF (fun y:Zu=>ofB ms y.kind) D (ZaA q.1.length D2) (!decide (ms=0))) (Z5 q.1 mk (i:Int)))<way.length)):=by have h9:=hc2;rintro ⟨h8,_⟩;rw [Yaf h8] at h9;simp at h9
   have hb2:=hst.1 hno
   have hwy2:=hwy
   refine Yf (Zk (Za (rZ G (qp r1 (qR rr qZ)) Z [40,39,11,9,8,7,6,4,2] [104,103,0] fun G=>?_)))
   replace G:=G.ent (i:=40) (s':=.pv (.int .i64 ((i+1:Nat):Int))) rfl (.int (Zd ow))
   replace G:=G.ent (i:=11) (s':=.pv (if way = [] then PV.is (.slice none 0 0) else PV.sl ZaB way)) rfl ((by rw [Ye hfk];exact Ent.refl))
   obtain ⟨F,G⟩:=G.nM [39,9,8,7,6,4,2,11,40] [103,0]
   exact ⟨((i+1),(way)),F,⟨by omega,⟨by have h9:((i+1:Nat):Int)=(i:Int)+1:=ow;rw [h9];exact hb2,hwy2⟩⟩,G,by omega⟩
  rw [Yb hfk] at G
  refine Zg G (qR rr (qf (ZaV .t qi) r1 qz (qR rr (qm rfl rfl rfl rfl (qk rfl (fun h=>Zh8 Yb5 (.w h) hfk) r2 qz (qk rfl (fun h=>oM (.w h)) r2 qz (Zv.cons (Zan.cond2 rfl rfl (fun h=>ZaS .t (by rfl))) r2 qz (Zv.cons (Zan.cond2 rfl rfl (fun h=>ZaS .t (by rfl))) r2 qz (Zv.cons (Zan.cond2 rfl rfl (fun h=>Zbe Yb5 (.w h))) r2 qz (Zv.cons (Zan.cond2 rfl rfl (fun h=>ZaD (.w h) (.w h))) r3 qz (qk rfl (fun h=>Zab (.w h) (.wc h)) r3 qz (qf (ZH .t .t) r2 qz qZ)))))))))))) Z [64,40,39,14,13,12,11,9,8,7,6,4,2] [104,103,0] rfl rfl fun a w F G=>?_
  try dsimp only [Zo,Zn,ZaB] at G
  refine Za (Zc G rfl (fun hc3=>?_) (fun hc3=>?_))
  ·have hyes:0<(ZO (ZF (fun y:Zu=>ofB ms y.kind) D (ZaA q.1.length D2) (!decide (ms=0))) (Z5 q.1 mk (i:Int)))∧(way = []∨(ZO (ZF (fun y:Zu=>ofB ms y.kind) D (ZaA q.1.length D2) (!decide (ms=0))) (Z5 q.1 mk (i:Int)))<way.length):=by have h9:=hc3;rw [Bool.false_or,Yr,Yu,Yu] at h9;exact ⟨h9.1,.inr h9.2⟩
   obtain ⟨hW0,hwne,hb2,hwl2⟩:=hst.2 hyes
   have hkn:(ZO (ZF (fun y:Zu=>ofB ms y.kind) D (ZaA q.1.length D2) (!decide (ms=0))) (Z5 q.1 mk (i:Int)))=(((ZO (ZF (fun y:Zu=>ofB ms y.kind) D (ZaA q.1.length D2) (!decide (ms=0))) (Z5 q.1 mk (i:Int))).toNat:Nat):Int):=by omega
   have hwy2:(ZaT (Z5 q.1 mk) (ZF (fun y:Zu=>ofB ms y.kind) D (ZaA q.1.length D2)) (fun y:Zu=>ofB ms y.kind) (i:Int) (ZO (ZF (fun y:Zu=>ofB ms y.kind) D (ZaA q.1.length D2) (!decide (ms=0))) (Z5 q.1 mk (i:Int))).toNat (i:Int) (!decide (ms=0))).length≤90001:=by omega
   refine Zg G (qe 5 104 r1 r1 (qR rr (qR rr (qR rr (qf (o_neq .t qi) r1 qz (qf (oP (ZqW E q.1 q.2.1 q.2.2 mk ms D (ZaA q.1.length D2) (i:Int) (ZO (ZF (fun y:Zu=>ofB ms y.kind) D (ZaA q.1.length D2) (!decide (ms=0))) (Z5 q.1 mk (i:Int))).toNat (!decide (ms=0)) ow hD hL hW0 hO (fun u x hx=>by have h9:=(hD.outR mk u x hx).1;rw [hlD,hlE];omega) (fun u=>Y6 (hD.outL mk u) hEl)) func130 (Args.four (.pagg .t) .t (.conv .t (Ent.int hkn)) .t)) r4 qz (qO rr qZ))))))) Z [40,39,11,9,8,7,6,4,2] [104,103,0] rfl rfl fun a w F G=>Zk (Za ?_)
   refine rZ G (qp r1 (qR rr qZ)) Z [40,39,11,9,8,7,6,4,2] [104,103,0] fun G=>?_
   replace G:=G.ent (i:=40) (s':=.pv (.int .i64 ((i+1:Nat):Int))) rfl (.int (Zd ow))
   replace G:=G.ent (i:=11) (s':=.pv (if (ZaT (Z5 q.1 mk) (ZF (fun y:Zu=>ofB ms y.kind) D (ZaA q.1.length D2)) (fun y:Zu=>ofB ms y.kind) (i:Int) (ZO (ZF (fun y:Zu=>ofB ms y.kind) D (ZaA q.1.length D2) (!decide (ms=0))) (Z5 q.1 mk (i:Int))).toNat (i:Int) (!decide (ms=0))) = [] then PV.is (.slice none 0 0) else PV.sl ZaB (ZaT (Z5 q.1 mk) (ZF (fun y:Zu=>ofB ms y.kind) D (ZaA q.1.length D2)) (fun y:Zu=>ofB ms y.kind) (i:Int) (ZO (ZF (fun y:Zu=>ofB ms y.kind) D (ZaA q.1.length D2) (!decide (ms=0))) (Z5 q.1 mk (i:Int))).toNat (i:Int) (!decide (ms=0))))) rfl ((by rw [Yb hwne];exact Ent.refl))
   obtain ⟨F,G⟩:=G.nM [39,9,8,7,6,4,2,11,40] [103,0]
   exact ⟨((i+1),((ZaT (Z5 q.1 mk) (ZF (fun y:Zu=>ofB ms y.kind) D (ZaA q.1.length D2)) (fun y:Zu=>ofB ms y.kind) (i:Int) (ZO (ZF (fun y:Zu=>ofB ms y.kind) D (ZaA q.1.length D2) (!decide (ms=0))) (Z5 q.1 mk (i:Int))).toNat (i:Int) (!decide (ms=0))))),F,⟨by omega,⟨by have h9:((i+1:Nat):Int)=(i:Int)+1:=ow;rw [h9];exact hb2,hwy2⟩⟩,G,by omega⟩
  have hno:¬ (0<(ZO (ZF (fun y:Zu=>ofB ms y.kind) D (ZaA q.1.length D2) (!decide (ms=0))) (Z5 q.1 mk (i:Int)))∧(way = []∨(ZO (ZF (fun y:Zu=>ofB ms y.kind) D (ZaA q.1.length D2) (!decide (ms=0))) (Z5 q.1 mk (i:Int)))<way.length)):=by have h9:=hc3;rintro ⟨h8,h7⟩;rw [Yaf h8,Ybp,Bool.false_or,YH] at h9;exact h7.elim hfk h9
  have hb2:=hst.1 hno
  have hwy2:=hwy
  refine Yf (Zk (Za (rZ G (qp r1 (qR rr qZ)) Z [40,39,11,9,8,7,6,4,2] [104,103,0] fun G=>?_)))
  replace G:=G.ent (i:=40) (s':=.pv (.int .i64 ((i+1:Nat):Int))) rfl (.int (Zd ow))
  replace G:=G.ent (i:=11) (s':=.pv (if way = [] then PV.is (.slice none 0 0) else PV.sl ZaB way)) rfl ((by rw [Yb hfk];exact Ent.refl))
  obtain ⟨F,G⟩:=G.nM [39,9,8,7,6,4,2,11,40] [103,0]
  exact ⟨((i+1),(way)),F,⟨by omega,⟨by have h9:((i+1:Nat):Int)=(i:Int)+1:=ow;rw [h9];exact hb2,hwy2⟩⟩,G,by omega⟩
 have hil:i=(ZJ lf).length:=by simp at hc1;omega
 refine Yx (Zj (Zj (Zr (Za (Ya (Ya ?_))))))
 by_cases hfk:way = []
 ·rw [Ye hfk] at G
  refine rZ G (qR rr (qf (Zgm Yb5 .t) r1 qz qZ)) Z [73,11,8,7,6] [103,0] fun G=>?_
  refine Zc G rfl (fun hc4=>?_) (fun hc4=>?_)
  ·have hgR:[] = R:=(Zh0 hE0 hq hil hR).1 hfk
   have hgE:(3:Int)=if R = [] then 3 else 0:=by rw [← hgR,Ye rfl]
   refine Ya (rZ G (qC (qI qZ)) Z [11,8,7,6] [103,0] fun G=>(Yh (Zm ?_)))
   refine Zad hfr G rfl (.tmp rfl (.tmp rfl .nil)) (.two (.trans .nilSl (.sl hgR)) (.int hgE))
  simp at hc4
 rw [Yb hfk] at G
 refine rZ G (qR rr (qf (Zh8 Yb5 .t hfk) r1 qz qZ)) Z [73,11,8,7,6] [103,0] fun G=>?_
 refine Zc G rfl (fun hc5=>?_) (fun hc5=>?_)
 ·simp at hc5
 obtain ⟨hwr,hres⟩:=(Zh0 hE0 hq hil hR).2 hfk
 refine Yf (Za (Ya (rZ G (qC qZ) Z [15,11,8,7,6] [103,0] fun G=>(Ya (Ya ?_)))))
 refine rZ G (qR rr (qu Yb5 r1 (qJ qZ))) Z [76,75,74,15,8,7,6] [103,0] fun G=>Yg ?_
 replace G:=G.fresh 51 rfl
 replace G:=G.turn 51 rfl (ZaP (T:=42) (sz:=4) (R:=Zn))
 refine Zl (σ:=(Nat)×(Value)×(List Ze)) [6,7,8,74,75] [0,103] (fun s=>[(76,.pv (.int .i64 (s.1:Int))),(15,.pv (.is s.2.1))]) (fun s=>[(51,.ob (.val s.2.1) (ZA 42 4 Zn s.2.2))]) (fun s=>s.1≤way.length∧(s.2.2=(way.take s.1).map (ZhV (ZJ lf) (ZZ lf)))) (fun s=>way.length - s.1) ((0),(.slice none 0 0),([])) G ⟨rfl,rfl,rfl,rfl,rfl,rfl,rfl,tv⟩ ⟨rfl,rfl,rfl,tv⟩ ⟨Yw _,rfl⟩ ?_
 clear G;intro s a w F hC G
 obtain ⟨i,v,out⟩:=s
 try dsimp only at hC
 obtain ⟨F,G⟩:=G.nM [76,75,74,15,8,7,6] [103,51,0]
 try dsimp only at G
 obtain ⟨hi,hq⟩:=hC
 have hol:out.length=i:=by rw [hq,YF,Yj];omega
 refine Ya (rZ G (qL r2) Z [77,76,75,74,15,8,7,6] [103,51,0] fun G=>Ya ?_)
 refine Zc G rfl (fun hc6=>?_) (fun hc6=>?_)
 ·have hil:i<way.length:=by simp at hc6;omega
  refine Yf (Za (Ya (Yg (Ya (Zb G (qy 4 Yb5 r2 (qf (oR true 4 .t) r1 qz (qf (oH [.int .i64 0,.int .i64 0,.int .i64 0,.int .i64 0] 105) trivial qz (qS 4 105 r2 r1 qZ)))) Z [76,75,74,17,15,8,7,6] [105,103,51,0] (fun _=>rfl) (fun _=>rfl) fun τ a w F G=>?_)))))
  try dsimp only [RS.sub,SF.sub,CF.sub,csub,Anc.sub,List.map,Zf,xL,xM,Nat.reduceAdd,xD,xE,xT,xU,xC,xN,zCF,ldSF,Zo,Zn,ZaB] at G
  generalize τ 17=v17 at G
  try simp only [Yc] at G
  refine Za (Zb G (qR rr (qe 2 103 r1 r1 (qe 4 105 r1 r1 (qf (oP (Zrb (ZJ lf) (ZZ lf) (Nn way i) (hwr _ (nth_mem hil)).1 (hwr _ (nth_mem hil)).2.1 (hwr _ (nth_mem hil)).2.2) func131 (Args.two (.pagg .t) (.pagg .t))) r2 qz (qf (o_buildSliceE (sz:=4) (zs:=[.int .i64 0,.int .i64 0,.int .i64 0,.int .i64 0]) (r:=[(0,.tmp 83)]) (l:=[_,_,_,_]) Yb0 kr kr kr kr rfl rfl (.agg rfl (.conv .t .agg) kr kr .nil) rfl) r1 qz (qf (Z1 (sz:=4) (bs:=32) 51 (.mk' Yb0 kr kr) (by intro x;rfl) .is (.arr (l':=[ZhV (ZJ lf) (ZZ lf) (Nn way i)]) .t) (by simp only [Yd,Yl,Yy,Yj,YJ];omega) (by decide)) ⟨rfl,rfl,tv⟩ ⟨rfl,tv⟩ (qO rr qZ))))))) Z [76,75,74,15,8,7,6] [105,103,51,0] (fun _=>rfl) (fun _=>rfl) fun τ a w F G=>?_)
  try dsimp only [RS.sub,SF.sub,CF.sub,csub,Anc.sub,List.map,Zf,xL,xM,Nat.reduceAdd,xD,xE,xT,xU,xC,xN,zCF,ldSF,Zo,Zn,ZaB] at G
  generalize τ 85=v85 at G
  refine Zk (Za (rZ G (qp r1 (qR rr qZ)) Z [76,75,74,15,8,7,6] [105,103,51,0] fun G=>?_))
  replace G:=G.ent (i:=76) (s':=.pv (.int .i64 ((i+1:Nat):Int))) rfl (.int (Zd ow))
  obtain ⟨F,G⟩:=G.nM [75,74,8,7,6,15,76] [103,0,51]
  exact ⟨((i+1),_,_),F,⟨by omega,(by rw [Zt hil,YK,← hq];rfl)⟩,G,by omega⟩
 have hil:i=way.length:=by simp at hc6;omega
 have hgR:out=R:=by rw [hq,hil,YC];exact hres.1
 have hgE:(0:Int)=if R = [] then 3 else 0:=by rw [Yb hres.2]
 refine Yx (Zj (Zj (Zr (Za (Ya (rZ G (qR rr (qO rr (qI qZ))) Z [7,6] [103,51,0] fun G=>Yh ?_))))))
 obtain ⟨F,G⟩:=G.give 51 6 rfl rfl
 refine Zad hfr G rfl (.tmp rfl (.tmp rfl .nil)) (.two (.sl hgR) (.int hgE))
structure Zsw where
 phen:Int
 walk:List Ze
 read:Zox
 deriving DecidableEq,Inhabited
def Zhr (w:Zsw):List PV:=[.int .i64 w.phen,.sl Zn w.walk,.int .i64 w.read.tx,.int .i64 w.read.place,.int .i64 w.read.vof.tx,.int .i64 w.read.vof.key,.int .i64 w.read.vof.nth]
def Zpq:Zox:=⟨0,0,⟨0,0,0⟩⟩
def Ze8:Zsw:=⟨0,[],Zpq⟩
def ZrV (p:Int) (R:List Ze):Zsw:=if R = [] then Ze8 else ⟨p,R,Zpq⟩
def ZqY (p:Int) (l:List Zox):Zsw:=if l = [] then Ze8 else ⟨p,[],Nn l 0⟩
def Zb9 (l:List Ze) (p:Int) (R:List Ze):Prop:=if (ZS p).1=0 then R = [] else
 (R = [] ∧ ∀ j w,¬ CwE (· ∈ l.filter (kindOk (ZS p).1)) (fun e=>ofB (ZS p).2 e.kind) (!decide ((ZS p).2=0)) j w)∨Za9 (· ∈ l.filter (kindOk (ZS p).1)) (fun e=>ofB (ZS p).2 e.kind) (!decide ((ZS p).2=0)) R
theorem Zrh {p:Int} (h:(ZS p).1≠0):bits .and .i64 (ZS p).1 14=(ZS p).1∧bits .and .i64 (ZS p).2 14=(ZS p).2∧bits .andNot .i64 (ZS p).1 (ZS p).2≠bits .and .i64 (ZS p).1 (ZS p).2 ∧
  (∀ k,1≤k→k≤3→ofB (bits .andNot .i64 (ZS p).1 (ZS p).2) k=(ofB (ZS p).1 k && !ofB (ZS p).2 k)) ∧ ∀ k,1≤k→k≤3→ofB (bits .and .i64 (ZS p).1 (ZS p).2) k=(ofB (ZS p).1 k && ofB (ZS p).2 k):=by
 have key:∀ a b:Int,(a=2∧b=0)∨(a=6∧b=0)∨(a=14∧b=8)→bits .and .i64 a 14=a∧bits .and .i64 b 14=b∧bits .andNot .i64 a b≠bits .and .i64 a b∧(∀ k,1≤k→k≤3→ofB (bits .andNot .i64 a b) k=(ofB a k && !ofB b k)) ∧ ∀ k,1≤k→k≤3→ofB (bits .and .i64 a b) k=(ofB a k && ofB b k):=by
  rintro a b (⟨rfl,rfl⟩ | ⟨rfl,rfl⟩ | ⟨rfl,rfl⟩) <;> refine ⟨by decide +kernel,by decide +kernel,by decide +kernel,fun k h1 h2=>?_,fun k h1 h2=>?_⟩ <;> (rcases (show k=1∨k=2∨k=3 by omega) with rfl | rfl | rfl <;> decide +kernel)
 refine key _ _ ?_
 unfold ZS at h ⊢
 by_cases h1:p=1
 ·subst h1;exact .inl ⟨rfl,rfl⟩
 ·by_cases h4:p=4
  ·subst h4;exact .inr (.inl ⟨rfl,rfl⟩)
  ·by_cases h5:p=5
   ·subst h5;exact .inr (.inr ⟨rfl,rfl⟩)
   ·rw [Yb h1,Yb h4,Yb h5] at h;exact absurd rfl h
theorem Zr1 (l:List Ze) (p:Int) (hl:l.length≤100000) (hN:(ZS p).1≠0→(ZJ (l.filter (kindOk (ZS p).1))).length≤4096) (R:List Ze) (hR:Zb9 l p R):FnP prog 36 [.sl Zn l,.int .i64 p] (.tup [.agg (Zhr (ZrV p R)),.bool (decide (R≠[]))]):=by
 refine FnP.mk func36 rfl ntmps36 rfl fun B a w F Z hfr G=>Ya ?_
 refine Zb G (qf (oH [.int .i64 0,.slice none 0 0,.int .i64 0,.int .i64 0,.int .i64 0,.int .i64 0,.int .i64 0] 101) trivial qz qB) Z [5,4,1,0] [101,0] (fun _=>rfl) (fun _=>rfl) fun τ a w F G=>?_
 try dsimp only [RS.sub,SF.sub,CF.sub,csub,Anc.sub,List.map,zCF,Zn] at G
 generalize τ 4=v4 at G
 refine Za (Ya (rZ G (qR rr (qf (oP (ZnT p) func68 (Args.one .t)) r1 qz (qR rr (qf (Zh .t rfl) r1 qz (qf (Zh .t rfl) r1 qz (qO rr (qO rr qZ))))))) Z [7,6,5,4,1,0] [101,0] fun G=>(Ya (Ya ?_))))
 refine rZ G (qR rr (qf (o_eql .t qi) r1 qz qZ)) Z [16,7,6,5,4,1,0] [101,0] fun G=>?_
 refine Zc G rfl (fun hc0=>?_) (fun hc0=>?_)
 ·have hm0:(ZS p).1=0:=Yt hc0
  have hR2:R = []:=by unfold Zb9 at hR;rw [Ye hm0] at hR;exact hR
  have hw:ZrV p R=Ze8:=Ye hR2
  have hok:false=decide (R≠[]):=by rw [hR2];rfl
  refine Ya (rZ G (qf (oB [] [.int .i64 0,.slice none 0 0,.int .i64 0,.int .i64 0,.int .i64 0,.int .i64 0,.int .i64 0] [(0,1),(1,1),(2,5)] .nil) trivial qz (qs 7 101 r2 r1 qB)) Z [7,6,5,4,1,0] [101,0] fun G=>(Yh (Zm ?_)))
  refine Zad hfr G rfl (.cl 101 true 7 rfl rfl (.tmp rfl .nil)) (.two (.aggLe rfl (by rw [hw];exact ⟨.refl,.nilSl,.refl,.refl,.refl,.refl,.refl,tv⟩)) (.bool hok))
 have hm0:(ZS p).1≠0:=YE hc0
 obtain ⟨hk1,hk2,hk3,hk4,hk5⟩:=Zrh hm0
 have hn0:=hN hm0
 have hR2:=hR
 unfold Zb9 at hR2
 rw [Yb hm0] at hR2
 refine Yf (Za (Ya (rZ G (qR rr (qR rr (qR rr (qf (oP (Zlc l _ (ZS p).1 (ZS p).2 (ZS p).1 (ZS p).2 _ _ hk1 hk2 rfl rfl hk3 hk4 hk5 hl rfl hn0 R hR2) func76 (Args.three .t .t .t)) r3 qz (qR rr (qf (Zh .t rfl) r1 qz (qf (Zh .t rfl) r1 qz (qO rr (qO rr qZ))))))))) Z [9,8,5,4,1] [101,0] fun G=>(Ya (Ya ?_)))))
 refine rZ G (qR rr (qf (o_neq .t qi) r1 qz qZ)) Z [26,8,5,4,1] [101,0] fun G=>?_
 refine Zc G rfl (fun hc1=>?_) (fun hc1=>?_)
 ·have hr0:R = []:=YaI fun k=>(by have h9:=hc1;rw [Yb k] at h9;simp at h9)
  have hw:ZrV p R=Ze8:=Ye hr0
  have hok:false=decide (R≠[]):=by rw [hr0];rfl
  refine Ya (rZ G (qf (oB [] [.int .i64 0,.slice none 0 0,.int .i64 0,.int .i64 0,.int .i64 0,.int .i64 0,.int .i64 0] [(0,1),(1,1),(2,5)] .nil) trivial qz (qs 7 101 r2 r1 qB)) Z [8,5,4,1] [101,0] fun G=>(Yh (Zm ?_)))
  refine Zad hfr G rfl (.cl 101 true 7 rfl rfl (.tmp rfl .nil)) (.two (.aggLe rfl (by rw [hw];exact ⟨.refl,.nilSl,.refl,.refl,.refl,.refl,.refl,tv⟩)) (.bool hok))
 have hr0:R≠[]:=fun k=>(by have h9:=hc1;rw [Ye k] at h9;simp at h9)
 have hw:ZrV p R = ⟨p,R,Zpq⟩:=Yb hr0
 have hok:true=decide (R≠[]):=(Yaf hr0).symm
 refine Yf (Za (Ya (rZ G (qR rr (qR rr (qf (oB [(0,.tmp 28),(1,.tmp 29)] [.int .i64 0,.slice none 0 0,.int .i64 0,.int .i64 0,.int .i64 0,.int .i64 0,.int .i64 0] [(0,1),(1,1),(2,5)] (.one rfl .t one_int kr (.one rfl .t Zoc kr .nil))) r2 qz (qs 7 101 r2 r1 qB)))) Z [5,4] [101,0] fun G=>Yh ?_)))
 refine Zad hfr G rfl (.cl 101 true 7 rfl rfl (.tmp rfl .nil)) (.two (.aggU rfl (by rw [hw] <;> rfl)) (.bool hok))
theorem ZnB (g:Zq) (p:Int) (hsm:ZbY g):FnP prog 35 [.agg (Zx g),.int .i64 p] (.tup [.agg (Zhr (ZqY p (ZaC g p fun _=>true))),.bool (decide ((ZaC g p fun _=>true)≠[]))]):=by
 refine FnP.mk func35 rfl ntmps35 rfl fun B a w F Z hfr G=>Ya ?_
 refine Zb G (qx 101 r1 (qf (oH [.int .i64 0,.slice none 0 0,.int .i64 0,.int .i64 0,.int .i64 0,.int .i64 0,.int .i64 0] 102) trivial qz qB)) Z [5,4,2,1] [102,101,0] (fun _=>rfl) (fun _=>rfl) fun τ a w F G=>?_
 try dsimp only [RS.sub,SF.sub,CF.sub,csub,Anc.sub,List.map,zCF,Zx,rTx,ZV,ZQ,Zo,rOp,Zhv] at G
 generalize τ 2=v2,τ 4=v4 at G
 refine Za (Ya (rZ G (qe 2 101 r1 r1 (qR rr (qf (oP (ZtT g p hsm) func67 (Args.two (.pagg .t) .t)) r2 qz (qO rr qZ)))) Z [6,5,4,1] [102,101,0] fun G=>(Ya (Ya ?_))))
 refine rZ G (qR rr (qu underlying105 r1 (qf (o_eql .t qi) r1 qz qZ))) Z [12,6,5,4,1] [102,101,0] fun G=>?_
 refine Zc G rfl (fun hc0=>?_) (fun hc0=>?_)
 ·have hr0:(ZaC g p fun _=>true) = []:=YO (by have h9:=Yt hc0;omega)
  have hw:ZqY p (ZaC g p fun _=>true)=Ze8:=Ye hr0
  have hok:false=decide ((ZaC g p fun _=>true)≠[]):=by rw [hr0];rfl
  refine Ya (rZ G (qf (oB [] [.int .i64 0,.slice none 0 0,.int .i64 0,.int .i64 0,.int .i64 0,.int .i64 0,.int .i64 0] [(0,1),(1,1),(2,5)] .nil) trivial qz (qs 7 102 r2 r1 qB)) Z [6,5,4,1] [102,101,0] fun G=>(Yh (Zm ?_)))
  refine Zad hfr G rfl (.cl 102 true 7 rfl rfl (.tmp rfl .nil)) (.two (.aggLe rfl (by rw [hw];exact ⟨.refl,.nilSl,.refl,.refl,.refl,.refl,.refl,tv⟩)) (.bool hok))
 have hne:(ZaC g p fun _=>true)≠[]:=fun k=>(by have h9:=YE hc0;rw [k] at h9;simp at h9)
 have hw:ZqY p (ZaC g p fun _=>true) = ⟨p,[],Nn (ZaC g p fun _=>true) 0⟩:=Yb hne
 have hok:true=decide ((ZaC g p fun _=>true)≠[]):=(Yaf hne).symm
 refine Yf (Za (Ya (Zg G (qR rr (qR rr (qf (ZI (sz:=5) (.mk underlying105 kr) (by intro x;rfl) .t qi (by decide) (by have:=Yap.2 hne;omega)) r1 qz (qf (oR true 5 .t) r1 qz (qf (oB [(0,.tmp 14),(2,.tmp 17)] [.int .i64 0,.slice none 0 0,.int .i64 0,.int .i64 0,.int .i64 0,.int .i64 0,.int .i64 0] [(0,1),(1,1),(2,5)] (.one rfl .t one_int kr (.agg rfl .t kr kr .nil))) r2 qz (qs 7 102 r2 r1 qB)))))) Z [5,4] [102,101,0] rfl rfl fun a w F G=>?_)))
 try simp only [Yc] at G
 refine Za (Yh (Zad hfr G rfl (.cl 102 true 7 rfl rfl (.tmp rfl .nil)) (.two (.aggLe rfl (by rw [hw];exact ⟨.refl,.nilSl,.refl,.refl,.refl,.refl,.refl,tv⟩)) (.bool hok))))
theorem Zk3 {g:Zq} (hs:ZbY g) (mask:Int):(ZJ ((Zap g).filter (kindOk mask))).length≤4096:=by
 by_cases hg:ZK g
 ·have h1:(ZJ ((Zap g).filter (kindOk mask))).length≤(g.txs.map TxD.id).length:=List.Nodup.length_le_of_subset ((ZP _).1.imp fun h=>Int.ne_of_lt h) fun x hx=>by
   obtain ⟨e,he,hx⟩:=Zah.1 hx
   obtain ⟨h3,h4⟩:=Zg9 hg ((Ziu hg).1 (YV.1 he).1)
   rcases hx with rfl | rfl
   ·obtain ⟨t,h5,h6,_⟩:=h3;exact Yv.2 ⟨t,h5,h6⟩
   ·obtain ⟨t,h5,h6,_⟩:=h4;exact Yv.2 ⟨t,h5,h6⟩
  have h2:=hs.1.1
  rw [YF] at h1;omega
 ·rw [ZkB hg];exact Yw _
def ZqQ (g:Zq) (p:Int) (R:List Ze):Zsw:=if p=2∨p=3 then ZqY p (ZaC g p fun _=>true) else ZrV p R
def okH (g:Zq) (p:Int) (R:List Ze):Bool:=if p=2∨p=3 then decide ((ZaC g p fun _=>true)≠[]) else decide (R≠[])
theorem ZoZ (g:Zq) (hsm:ZbY g) (hAR:(wwC PT1 g).length+(rdC PT1 g).length≤100000) (p:Int) (R:List Ze) (hR:Zb9 (Zap g) p R):FnP prog 12 [.agg (Zx g),.int .i64 p] (.tup [.agg (Zhr (ZqQ g p R)),.bool (okH g p R)]):=by
 refine FnP.mk func12 rfl ntmps12 rfl fun B a w F Z hfr G=>?_
 have hel:=ZlO (A:=wwC PT1 g) (R:=rdC PT1 g)
 have hkl:=ZhW (ZgJ (wwC PT1 g) (rdC PT1 g))
 have hal:(ZgJ (wwC PT1 g) (rdC PT1 g)).length≤100000:=by unfold ZgJ;rw [Yd,YF];exact hAR
 have hpl:(Zap g).length≤100000:=by unfold Zap;rw [YF];omega
 obtain ⟨rb,hrb⟩:=Zq0 (Zs5 (Zap g) (ZS p).1 (ZS p).2)
 refine Ya (Zb G (qx 101 r1 (qf (oH [.int .i64 0,.slice none 0 0,.int .i64 0,.int .i64 0,.int .i64 0,.int .i64 0,.int .i64 0] 102) trivial qz qB)) Z [5,4,2,1] [102,101,0] (fun _=>rfl) (fun _=>rfl) fun τ a w F G=>?_)
 try dsimp only [RS.sub,SF.sub,CF.sub,csub,Anc.sub,List.map,zCF,Zx,rTx,ZV,ZQ,Zo,rOp,Zhv,rHv,Zn] at G
 generalize τ 2=v2,τ 4=v4 at G
 refine Za (Ya (Ya (rZ G (qR rr qZ) Z [6,5,4,2,1] [102,101,0] fun G=>(Yg (Ya (Ya ?_))))))
 refine rZ G (qf (o_eql .t qi) r1 qz (qO rr qZ)) Z [7,6,5,4,2,1] [102,101,0] fun G=>?_
 refine Zc G rfl (fun hc0=>?_) (fun hc0=>?_)
 ·have h23:(p=2∨p=3):=(by have h9:=hc0;simp at h9;omega)
  have hw:ZqQ g p R=ZqY p (ZaC g p fun _=>true):=Ye h23
  have hok:decide ((ZaC g p fun _=>true)≠[])=okH g p R:=(Ye h23).symm
  refine Yf (Za (Zc G rfl (fun hc1=>?_) (fun hc1=>?_)))
  ·have h23:(p=2∨p=3):=(by have h9:=hc1;simp at h9;omega)
   have hw:ZqQ g p R=ZqY p (ZaC g p fun _=>true):=Ye h23
   have hok:decide ((ZaC g p fun _=>true)≠[])=okH g p R:=(Ye h23).symm
   refine Ya (rZ G (qe 2 101 r1 r1 (qR rr (qf (oP (ZnB g p hsm) func35 (Args.two (.pagg .t) .t)) r2 qz (qf (Zh .t rfl) r1 qz (qf (Zh .t rfl) r1 qz (qf (oA 7 102 .is (.conv .t .agg)) r2 r1 (qO rr qZ))))))) Z [5,4,2,1] [102,101,0] fun G=>(Yh (ZB (Zm ?_))))
   refine Zad hfr G rfl (.cl 102 true 7 rfl rfl (.tmp rfl .nil)) (.two (.aggU rfl (by rw [hw] <;> rfl)) (.bool hok))
  exact Bool.noConfusion (hc0.symm.trans hc1)
 refine rZ G (qf (o_eql .t qi) r1 qz (qO rr qZ)) Z [7,5,4,2,1] [102,101,0] fun G=>?_
 refine Zc G rfl (fun hc2=>?_) (fun hc2=>?_)
 ·have h23:(p=2∨p=3):=(by have h9:=hc2;simp at h9;omega)
  have hw:ZqQ g p R=ZqY p (ZaC g p fun _=>true):=Ye h23
  have hok:decide ((ZaC g p fun _=>true)≠[])=okH g p R:=(Ye h23).symm
  refine Ya (rZ G (qe 2 101 r1 r1 (qR rr (qf (oP (ZnB g p hsm) func35 (Args.two (.pagg .t) .t)) r2 qz (qf (Zh .t rfl) r1 qz (qf (Zh .t rfl) r1 qz (qf (oA 7 102 .is (.conv .t .agg)) r2 r1 (qO rr qZ))))))) Z [5,4,2,1] [102,101,0] fun G=>(Yh (ZB (Zm ?_))))
  refine Zad hfr G rfl (.cl 102 true 7 rfl rfl (.tmp rfl .nil)) (.two (.aggU rfl (by rw [hw] <;> rfl)) (.bool hok))
 have hn23:¬ (p=2∨p=3):=by rintro (h9 | h9);exact YE hc0 h9;exact YE hc2 h9
 have hw:ZqQ g p R=ZrV p R:=Yb hn23
 have hok:decide (R≠[])=okH g p R:=(Yb hn23).symm
 refine Yf (Zk (Za (Ya (rZ G (qe 2 101 r1 r1 (qf (oP (Zsh g hsm (Y6 hAR (by decide))) func38 (Args.one (.pagg .t))) r1 qz (qf (oP (Zso _ (by have h9:=hpl;unfold Zap at h9;rw [YF] at h9;exact Y6 h9 (by decide))) func37 (Args.one .t)) r1 qz (qR rr (qf (oP (Zr1 (Zap g) p hpl (fun _=>Zk3 hsm _) R hR) func36 (Args.two .t .t)) r2 qz (qf (Zh .t rfl) r1 qz (qf (Zh .t rfl) r1 qz (qf (oA 7 102 .is (.conv .t .agg)) r2 r1 (qO rr qZ))))))))) Z [5,4] [102,101,0] fun G=>Yh ?_))))
 refine Zad hfr G rfl (.cl 102 true 7 rfl rfl (.tmp rfl .nil)) (.two (.aggU rfl (by rw [hw] <;> rfl)) (.bool hok))
def ZhH (k:Int):List UInt8:=if k=1 then [119,119] else if k=2 then [119,114] else if k=3 then [114,119] else [120]
def ZtL (k:Int):Int:=IntKind.wrap .i64 (1*2 ^ min (IntKind.wrap .u64 k).toNat (IntKind.bits .i64))
def Zh3 (l:List Ze):Int:=l.foldl (fun n e=>if 1≤e.kind∧e.kind≤3 then bits .or .i64 n (ZtL e.kind) else n) 0
theorem Zgh {l:List Ze} {i:Nat} (h:i<l.length):Zh3 (l.take (i+1))=if 1≤(Nn l i).kind∧(Nn l i).kind≤3 then bits .or .i64 (Zh3 (l.take i)) (ZtL (Nn l i).kind) else Zh3 (l.take i):=by
 rw [Zt h];unfold Zh3;rw [Ybk];rfl
def Zen (g:Zq) (id:Int):Bool:=(Z0 g.txs id).isSome && ((Z0 g.txs id).getD zeroT).done
def Zdj (g:Zq) (v:ZbN):Bool:=decide (v.tx=0) || (Zen g v.tx && decide (v.nth=((((Z0 g.txs v.tx).getD zeroT).ops.filter fun o=>!o.read && decide (o.key=v.key)).length:Nat)))
def ZfW (g:Zq) (key u x:Int):Bool:=(ZbX (getO g.orders key) u).2 && decide ((ZbX (getO g.orders key) u).1=x)
theorem ZgV {g:Zq} (hs:ZaI g.txs) (id:Int):((Z0 g.txs id).getD zeroT).ops.length≤1000000:=by
 cases hf:Z0 g.txs id with
 | none=>simp [zeroT]
 | some t=>exact Y6 (hs.2 _ (findT_mem hf).1) (by decide)
theorem Znj (k:Int):FnP prog 74 [.int .i64 k] (.bs (ZhH k)):=by
 refine FnP.mk func74 rfl ntmps74 rfl fun B a w F Z hfr G=>Ya ?_
 refine rZ G (qf (oN (.cs kr)) trivial qz qZ) Z [2,0] [0] fun G=>(Ya (Ya ?_))
 refine rZ G (qR rr qZ) Z [3,2] [0] fun G=>(Yg (Ya ?_))
 refine rZ G (qf (o_eql .t qi) r1 qz (qO rr qZ)) Z [4,3,2] [0] fun G=>?_
 refine Zc G rfl (fun hc0=>?_) (fun hc0=>?_)
 ·refine Ya (rZ G (qf (oN (.cs kr)) trivial qz qZ) Z [2] [0] fun G=>(Yh (ZB (Zm ?_))))
  refine Zw hfr G rfl rfl rfl (.bs (by unfold ZhH;simp_all))
 refine Ya (rZ G (qf (o_eql .t qi) r1 qz (qO rr qZ)) Z [6,3,2] [0] fun G=>?_)
 refine Zc G rfl (fun hc1=>?_) (fun hc1=>?_)
 ·refine Ya (rZ G (qf (oN (.cs kr)) trivial qz qZ) Z [2] [0] fun G=>(Yh (ZB (Zm ?_))))
  refine Zw hfr G rfl rfl rfl (.bs (by unfold ZhH;simp_all))
 refine Ya (rZ G (qf (o_eql .t qi) r1 qz (qO rr qZ)) Z [8,2] [0] fun G=>?_)
 refine Zc G rfl (fun hc2=>?_) (fun hc2=>?_)
 ·refine Ya (rZ G (qf (oN (.cs kr)) trivial qz qZ) Z [2] [0] fun G=>(Yh (ZB (Zm ?_))))
  refine Zw hfr G rfl rfl rfl (.bs (by unfold ZhH;simp_all))
 refine Yf (Zk (Za (Ya (rZ G (qf (oN (.cs kr)) trivial qz qZ) Z [2] [0] fun G=>Yh ?_))))
 refine Zw hfr G rfl rfl rfl (.bs (by unfold ZhH;simp_all))
theorem ZrK (l:List Ze) (hl:l.length≤1000000):FnP prog 71 [.sl Zn l] (.int .i64 (Zh3 l)):=by
 refine FnP.mk func71 rfl ntmps71 rfl fun B a w F Z hfr G=>Ya ?_
 refine rZ G (qI qZ) Z [2,0] [0] fun G=>Ya ?_
 refine rZ G (qI qZ) Z [3,2,0] [0] fun G=>(Ya (Ya ?_))
 refine rZ G (qR rr (qu Yb0 r1 (qJ qZ))) Z [8,7,6,3,2] [0] fun G=>Yg ?_
 refine Zl (σ:=(Nat)) [2,6,7] [0] (fun s=>[(8,.pv (.int .i64 (s:Int))),(3,.pv (.int .i64 (Zh3 (l.take s))))]) (fun s=>[]) (fun s=>s≤l.length∧(True)) (fun s=>l.length - s) (0) G ⟨rfl,rfl,rfl,rfl,rfl,tv⟩ ⟨rfl,tv⟩ ⟨Yw _,tv⟩ ?_
 clear G;intro i a w F hC G
 try dsimp only at hC
 obtain ⟨F,G⟩:=G.nM [8,7,6,3,2] [0]
 try dsimp only at G
 obtain ⟨hi,hq⟩:=hC
 refine Ya (rZ G (qL r2) Z [9,8,7,6,3,2] [0] fun G=>Ya ?_)
 refine Zc G rfl (fun hc0=>?_) (fun hc0=>?_)
 ·have hil:i<l.length:=by simp at hc0;omega
  refine Yf (Za (Ya (Yg (Ya (Zb G (qy 4 Yb0 r2 (qf (oR true 4 .t) r1 qz (qf (oH [.int .i64 0,.int .i64 0,.int .i64 0,.int .i64 0] 101) trivial qz (qS 4 101 r2 r1 qZ)))) Z [8,7,6,5,3,2] [101,0] (fun _=>rfl) (fun _=>rfl) fun τ a w F G=>?_)))))
  try dsimp only [RS.sub,SF.sub,CF.sub,csub,Anc.sub,List.map,Zf,xL,xM,Nat.reduceAdd,xD,xE,xT,xU,xC,xN,zCF,ldSF,Zn] at G
  generalize τ 5=v5 at G
  try simp only [Yc] at G
  refine Za (Ya (rZ G (qg 2 101 r1 r1 (qa 101 r1 r1 (qf (ZbM .t qi) r1 qz (qR rr (qv 2 101 rfl r2 r1 (qw 101 rfl r2 r1 (qk rfl (fun h=>Zlu (.w h) qi) r2 qz (qf (ZH .t .t) r2 qz qZ)))))))) Z [19,8,7,6,5,3,2] [101,0] fun G=>?_))
  refine Zc G rfl (fun hc1=>?_) (fun hc1=>?_)
  ·have hyn:1≤(Nn l i).kind∧(Nn l i).kind≤3:=by simpa using hc1
   refine Zg G (qR rr (qg 2 101 r1 r1 (qa 101 r1 r1 (qf (Zat Yb8 kr .t) r1 qz (qf (ZgG qi .t  (by rw [Zao];omega)) r1 qz (qf (ZqK .t .t) r2 qz (qO rr qZ))))))) Z [8,7,6,3,2] [0] rfl rfl fun a w F G=>Zk (Za ?_)
   refine rZ G (qp r1 (qR rr qZ)) Z [8,7,6,3,2] [0] fun G=>?_
   replace G:=G.ent (i:=8) (s':=.pv (.int .i64 ((i+1:Nat):Int))) rfl (.int (Zd ow))
   replace G:=G.ent (i:=3) (s':=.pv (.int .i64 (Zh3 (l.take (i+1))))) rfl (.int (by rw [Zgh hil,Ye hyn];rfl))
   obtain ⟨F,G⟩:=G.nM [7,6,2,3,8] [0]
   exact ⟨(i+1),F,⟨by omega,tv⟩,G,by omega⟩
  have hyn:¬ (1≤(Nn l i).kind∧(Nn l i).kind≤3):=by have h9:=hc1;simp at h9;omega
  refine Yf (Zk (Za (rZ G (qp r1 (qR rr qZ)) Z [8,7,6,3,2] [0] fun G=>?_)))
  replace G:=G.ent (i:=8) (s':=.pv (.int .i64 ((i+1:Nat):Int))) rfl (.int (Zd ow))
  replace G:=G.ent (i:=3) (s':=.pv (.int .i64 (Zh3 (l.take (i+1))))) rfl (.int (by rw [Zgh hil,Yb hyn]))
  obtain ⟨F,G⟩:=G.nM [7,6,2,3,8] [0]
  exact ⟨(i+1),F,⟨by omega,tv⟩,G,by omega⟩
 have hil:i=l.length:=by simp at hc0;omega
 refine Yx (Zj (Zj (Zr (Za (Ya (rZ G (qR rr (qO rr qZ)) Z [2] [0] fun G=>Yh ?_))))))
 refine Zw hfr G rfl rfl rfl (.int (by rw [hil,YC]))
theorem Zji (g:Zq) (id:Int) (hs:ZaI g.txs):FnP prog 80 [.agg (Zx g),.int .i64 id] (.tup [.agg (rTx ((Z0 g.txs id).getD zeroT)),.bool (Zen g id)]):=by
 refine FnP.mk func80 rfl ntmps80 rfl fun B a w F Z hfr G=>Ya ?_
 refine Zb G (qx 101 r1 (qf (oH [.int .i64 0,.bool false,.slice none 0 0] 102) trivial qz qB)) Z [5,4,2,1] [102,101,0] (fun _=>rfl) (fun _=>rfl) fun τ a w F G=>?_
 try dsimp only [RS.sub,SF.sub,CF.sub,csub,Anc.sub,List.map,zCF,Zx,rTx,ZV,ZQ,Zo,rOp] at G
 generalize τ 2=v2,τ 4=v4 at G
 refine Za (Ya (Zb G (qg 0 101 r1 r1 (qf (oL true 2 101 .adr) r1 r1 (qR rr (qf (oP (Zqz g id hs) func28 (Args.two (.pagg .t) .t)) r2 qz (qR rr (qf (Zh .t rfl) r1 qz (qf (Zh .t rfl) r1 qz (qf (oH [.int .i64 0,.bool false,.slice none 0 0] 103) trivial qz (qf (oA 3 103 .same (.conv .t .agg)) r2 r1 (qO rr qZ)))))))))) Z [7,6,5,4] [103,102,101,0] (fun _=>rfl) (fun _=>rfl) fun τ a w F G=>?_))
 try dsimp only [RS.sub,SF.sub,CF.sub,csub,Anc.sub,List.map,Zf,xL,xM,Nat.reduceAdd,xD,xE,xT,xU,xC,xN,zCF,ldSF,Zx,rTx,ZV,ZQ,Zo,rOp] at G
 generalize τ 6=v6 at G
 refine Za (Ya (Zz G (qe 3 103 r1 r1 (qR rr (qR rr (qv 1 103 rfl r2 r1 (qw 103 rfl r2 r1 (qf (ZH .t .t) r2 qz (qs 3 102 r2 r1 (qO rr qZ)))))))) Z [5,4] [103,102,101,0] rfl rfl fun a w F G=>?_))
 try dsimp only [List.map,Zf,xL,xM,Nat.reduceAdd,xD,xE,xT,xU,xC,xN,zCF,ldSF,Zx,rTx,ZV,ZQ,Zo,rOp] at G
 refine Za (Yh (Zad hfr G rfl (.cl 102 true 3 rfl rfl (.tmp rfl .nil)) (.two (.aggU rfl rfl) (.bool rfl))))
theorem Zmb (g:Zq) (v:ZbN) (hs:ZaI g.txs):FnP prog 84 [.agg (Zx g),.agg (ZQ v)] (.bool (Zdj g v)):=by
 refine FnP.mk func84 rfl ntmps84 rfl fun B a w F Z hfr G=>Ya ?_
 refine Zb G (qx 101 r1 (qx 102 r1 qB)) Z [4,3,2] [102,101,0] (fun _=>rfl) (fun _=>rfl) fun τ a w F G=>?_
 try dsimp only [RS.sub,SF.sub,CF.sub,csub,Anc.sub,List.map,zCF,Zx,rTx,ZV,ZQ,Zo,rOp] at G
 generalize τ 2=v2,τ 3=v3 at G
 refine Za (Ya (Ya (rZ G (qg 0 102 r1 r1 (qa 102 r1 r1 (qf (o_eql .t qi) r1 qz qZ))) Z [9,4,3,2] [102,101,0] fun G=>?_)))
 refine Zc G rfl (fun hc0=>?_) (fun hc0=>?_)
 ·have hg:true=Zdj g v:=by unfold Zdj;rw [Yt hc0];rfl
  refine Ya (rZ G qB Z [4,3,2] [102,101,0] fun G=>(Yh (Zm ?_)))
  refine Zw hfr G rfl rfl rfl (.bool hg)
 have hv0:v.tx≠0:=YE hc0
 have hg:(Zen g v.tx && decide (v.nth=((((Z0 g.txs v.tx).getD zeroT).ops.filter fun o=>!o.read && decide (o.key=v.key)).length:Nat)))=Zdj g v:=by unfold Zdj;rw [YI hv0,Bool.false_or]
 refine Yf (Za (Ya (Zb G (qe 2 101 r1 r1 (qg 0 102 r1 r1 (qa 102 r1 r1 (qf (oP (Zji g v.tx hs) func80 (Args.two (.pagg .t) .t)) r2 qz (qR rr (qf (Zh .t rfl) r1 qz (qf (Zh .t rfl) r1 qz (qf (oH [.int .i64 0,.bool false,.slice none 0 0] 103) trivial qz (qf (oA 3 103 .same (.conv .t .agg)) r2 r1 (qO rr qZ)))))))))) Z [6,5,4,3] [103,102,101,0] (fun _=>rfl) (fun _=>rfl) fun τ a w F G=>?_)))
 try dsimp only [RS.sub,SF.sub,CF.sub,csub,Anc.sub,List.map,Zf,xL,xM,Nat.reduceAdd,xD,xE,xT,xU,xC,xN,zCF,ldSF,Zx,rTx,ZV,ZQ,Zo,rOp] at G
 generalize τ 5=v5 at G
 refine Za (Ya (Zz G (qR rr (qR rr (qv 2 102 rfl r2 r1 (qw 102 rfl r2 r1 (qk rfl (fun h=>oL true 3 103 .is) r2 r1 (qv 1 102 rfl r2 r1 (qw 102 rfl r2 r1 (qk rfl (fun h=>oP (ZfD ((Z0 g.txs v.tx).getD zeroT) v.key (ZgV hs _)) func29 (Args.two (.pagg (.w h)) (.w h))) r3 qz (qk rfl (fun h=>o_eql (.w h) (.w h)) r3 qz (qf (ZH .t .t) r2 qz (qO rr qZ))))))))))) Z [4] [103,102,101,0] rfl rfl fun a w F G=>?_))
 try dsimp only [List.map,xD,xE,xT,xU,ldSF,Zx,rTx,ZV,ZQ,Zo,rOp] at G
 refine Za (Yh (Zw hfr G rfl rfl rfl (.bool hg)))
theorem ZnX (g:Zq) (key u x:Int) (hs:ZbY g):FnP prog 81 [.agg (Zx g),.int .i64 key,.int .i64 u,.int .i64 x] (.bool (ZfW g key u x)):=by
 refine FnP.mk func81 rfl ntmps81 rfl fun B a w F Z hfr G=>Ya ?_
 refine Zb G (qx 101 r1 qB) Z [8,4,3,2,1] [101,0] (fun _=>rfl) (fun _=>rfl) fun τ a w F G=>?_
 try dsimp only [RS.sub,SF.sub,CF.sub,csub,Anc.sub,List.map,zCF,Zx,rTx,ZV,ZQ,Zo,rOp] at G
 generalize τ 4=v4 at G
 refine Za (Ya (rZ G (qg 0 101 r1 r1 (qf (oL true 2 101 .adr) r1 r1 (qR rr (qf (oP (ZjL g key hs.2) func16 (Args.two (.pagg .t) .t)) r2 qz (qR rr (qf (oP (ZmV (getO g.orders key) u) func15 (Args.two .t .t)) r2 qz (qR rr (qf (Zh .t rfl) r1 qz (qf (Zh .t rfl) r1 qz (qO rr (qO rr qZ))))))))))) Z [10,9,8,3] [101,0] fun G=>Ya ?_))
 refine rZ G (qR rr (qR rr (qm rfl rfl rfl rfl (qm rfl rfl rfl rfl (qk rfl (fun h=>o_eql (.w h) (.w h)) r3 qz (qf (ZH .t .t) r2 qz (qO rr qZ))))))) Z [8] [101,0] fun G=>Yh ?_
 refine Zw hfr G rfl rfl rfl (.bool rfl)
def Zoy (u:Nat):List Int:=if h:u=0 then [] else Zoy (u / 10) ++ [((48+u % 10:Nat):Int)]
 termination_by u
 decreasing_by omega
def Zht (u:Nat):List Int:=Zoy (u / 10) ++ [((48+u % 10:Nat):Int)]
theorem ZjP:Zoy 0 = []:=by unfold Zoy;simp
theorem ZjU {u:Nat} (h:u≠0):Zoy u=Zht u:=by unfold Zoy Zht;simp [h]
def Zek (n:Int):List UInt8:=if n<0 then 45 :: (Zht n.natAbs).map toB else (Zht n.natAbs).map toB
structure ZfH (u0 i u:Nat) (l:List Int):Prop where
 hl:l.length=20
 hi:i≤20
 hu:u<10 ^ i
 hb:u≤18446744073709551615
 ok:(i=20∧u=u0)∨(i<20∧Zoy u++l.drop i=Zht u0)
theorem ZfH.start {u0:Nat} (h:u0≤18446744073709551615):ZfH u0 20 u0 [0,0,0,0,0,0,0,0,0,0,0,0,0,0,0,0,0,0,0,0]:=⟨rfl,YL _,by omega,h,.inl ⟨rfl,rfl⟩⟩
theorem ZfH.pos {u0 i u:Nat} {l:List Int} (h:ZfH u0 i u l) (hc:i=20∨0<u):1≤i:=by
 rcases hc with hc | hc
 ·omega
 ·rcases Nat.eq_zero_or_pos i with h0 | h0
  ·have:=h.hu;rw [h0] at this;omega
  ·exact h0
theorem ZfH.next {u0 i u:Nat} {l:List Int} (h:ZfH u0 i u l) (hc:i=20∨0<u):ZfH u0 (i - 1) (u / 10) (l.set (i - 1) ((48+u % 10:Nat):Int)):=by
 have h1:=h.pos hc
 have hi:=h.hi
 have hl:=h.hl
 have hd:(l.set (i - 1) ((48+u % 10:Nat):Int)).drop (i - 1)=((48+u % 10:Nat):Int) :: l.drop i:=by
  rw [List.drop_eq_getElem_cons (by rw [YR];omega),Ybz,show i - 1+1=i by omega,List.drop_set_of_lt ow]
 refine ⟨by rw [YR];exact h.hl,by omega,?_,by have:=h.hb;omega,.inr ⟨by omega,?_⟩⟩
 ·have:=h.hu
  rw [show i=(i - 1)+1 by omega,Nat.pow_succ] at this
  omega
 ·rw [hd]
  have e:Zoy (u / 10)++((48+u % 10:Nat):Int) :: l.drop i=Zht u++l.drop i:=by
   unfold Zht;simp
  rw [e]
  rcases h.ok with ⟨h2,h3⟩ | ⟨h2,h3⟩
  ·rw [h2,h3,YaV ow];simp
  ·rw [← ZjU ow];exact h3
theorem ZfH.done {u0 i u:Nat} {l:List Int} (h:ZfH u0 i u l) (h1:i≠20) (h2:u=0):l.drop i=Zht u0:=by
 rcases h.ok with ⟨h3,_⟩ | ⟨_,h3⟩
 ·exact absurd h3 h1
 ·rw [h2,ZjP] at h3;simpa using h3
theorem ZkO (u:Nat) (hu:u≤18446744073709551615):FnP prog 122 [.int .u64 (u:Int)] (.bs ((Zht u).map toB)):=by
 refine FnP.mk func122 rfl ntmps122 rfl fun B a w F Z hfr G=>Ya ?_
 refine rZ G (qf (oN (.cs kr)) trivial qz qZ) Z [2,0] [0] fun G=>Ya ?_
 refine Zb G (qf (oH [.int .u8 0,.int .u8 0,.int .u8 0,.int .u8 0,.int .u8 0,.int .u8 0,.int .u8 0,.int .u8 0,.int .u8 0,.int .u8 0,.int .u8 0,.int .u8 0,.int .u8 0,.int .u8 0,.int .u8 0,.int .u8 0,.int .u8 0,.int .u8 0,.int .u8 0,.int .u8 0] 101) trivial qz qZ) Z [3,2,0] [101,0] (fun _=>rfl) (fun _=>rfl) fun τ a w F G=>?_
 try dsimp only [RS.sub,SF.sub,CF.sub,csub,Anc.sub,List.map,zCF] at G
 generalize τ 3=v3 at G
 refine Za (Ya (rZ G (qI qZ) Z [4,3,2,0] [101,0] fun G=>(Ya (Yg ?_))))
 replace G:=G.turn 101 rfl (r':=.ob (.val v3) (ZlZ 237 (fun x=>PV.int .u8 x) [0,0,0,0,0,0,0,0,0,0,0,0,0,0,0,0,0,0,0,0])) (fun τ w f y h=>ZgS (f:=(fun x=>PV.int .u8 x)) (l:=[0,0,0,0,0,0,0,0,0,0,0,0,0,0,0,0,0,0,0,0]) τ w f y h)
 obtain ⟨F,G⟩:=G.nM [4,3,0] [101,0]
 refine Zbb (σ:=(Nat×Nat×List Int)) (fun s=>(⟨[(0,.pv (.int .u64 s.2.1)),(3,.pv (.is v3)),(4,.pv (.int .i64 s.1))],[(0,frame B),(101,.ob (.val v3) (ZlZ 237 (fun x=>PV.int .u8 x) s.2.2))]⟩:En)) (fun s=>ZfH u s.1 s.2.1 s.2.2) (fun s=>s.1) (20,u,[0,0,0,0,0,0,0,0,0,0,0,0,0,0,0,0,0,0,0,0]) G (ZfH.start hu) ?_
 clear G;intro s a w F hC G
 obtain ⟨i,x,l⟩:=s
 try dsimp only at hC
 try dsimp only at G
 have hl:=hC.hl
 have hi:=hC.hi
 have hbx:=hC.hb
 try dsimp only at hl hi hbx
 refine Ya (Ya (rZ G (qR rr (qf (o_eql .t qi) r1 qz (qR rr (qm rfl rfl rfl rfl (qk rfl (fun h=>ZaV (.w h) qi) r2 qz (qf (Zab .t .t) r2 qz qZ)))))) Z [10,4,3,0] [101,0] fun G=>?_))
 refine Zc G rfl (fun hc0=>?_) (fun hc0=>?_)
 ·have hcc:i=20∨0<x:=by simp only [YaO,Yu] at hc0;omega
  have hip:=hC.pos hcc
  try dsimp only at hip
  refine Yf (Za (Yg (Ya (Zg G (qR rr (qf (o_sub .t qi) r1 qz (qO rr qZ))) Z [4,3,0] [101,0] rfl rfl fun a w F G=>?_))))
  rw [show IntKind.wrap .i64 ((i:Int) - 1)=((i - 1:Nat):Int) by rw [ZC ow];omega] at G
  refine Za (Ya (Zg G (qR rr (qR rr (qf (ZsN .t qi (by decide)) r1 qz (qf (o_add qi .t) r1 qz (qf (Zat underlying5 kr .t) r1 qz (qf (ZbQ (sz:=1) 101 underlying237 kr .is .t ow ow) r2 r1 (qf (ZlF 101 .adr .t one_int kr (by rw [hl];omega)) r2 r1 qZ))))))) Z [4,3,0] [101,0] rfl rfl fun a w F G=>?_))
  rw [show 0+((i - 1:Nat):Int).toNat*1=i - 1 by omega] at G
  rw [show IntKind.wrap .u8 (IntKind.wrap .u64 (48+(x:Int).tmod 10))=((48+x % 10:Nat):Int) by rw [Zsa,Zao,Int.tmod_eq_emod_of_nonneg ow];omega] at G
  refine Za (Zg G (qR rr (qf (Ztr .t qi (by decide)) r1 qz (qO rr qZ))) Z [4,3,0] [101,0] rfl rfl fun a w F G=>Zk (Za ?_))
  replace G:=G.ent (i:=0) (s':=.pv (.int .u64 ((x / 10:Nat):Int))) rfl (.int (by rw [Zao,Int.tdiv_eq_ediv_of_nonneg ow];omega))
  obtain ⟨F,G⟩:=G.nM [4,3,0] [101,0]
  exact ⟨(i - 1,x / 10,l.set (i - 1) ((48+x % 10:Nat):Int)),F,(hC.next hcc),G,by dsimp only;omega⟩
 have hcc:i≠20∧x=0:=by simp only [YbE,YH] at hc0;omega
 have hdd:=hC.done hcc.1 hcc.2
 refine Yx (Zj (Zj (Zr (Za (Ya ?_)))))
 replace G:=G.turn 101 rfl Zhm
 obtain ⟨F,G⟩:=G.giveRef 101 3 rfl rfl (Zj1 _ _)
 rw [Zj8] at G
 obtain ⟨F,G⟩:=G.nM [10,4,3,0] [0]
 refine rZ G (qR rr (qf (Zju (sz:=1) (R:=rB) (l:=l) underlying237 kr (by intro x;rfl) hl (by decide) .t .t ow ow) r2 qz (qf (o_conv_sl_bs underlying113 underlying5 Ycc .t) r1 qz (qO rr qZ)))) Z [2] [0] fun G=>Yh ?_
 refine Zw hfr G rfl rfl rfl (.bs (by rw [Yc,hdd]))
theorem Zkm:∀ (k u:Nat),u<10 ^ k→(Zoy u).length≤k
 | 0,u,h=>by
  have:u=0:=by simpa using h
  rw [this,ZjP];simp
 | k+1,u,h=>by
  by_cases h0:u=0
  ·rw [h0,ZjP];simp
  ·rw [ZjU h0]
   unfold Zht
   have:=Zkm k (u / 10) (by rw [Nat.pow_succ] at h;omega)
   rw [Yd]
   simp only [Yl,Yy]
   omega
theorem ZjI {u:Nat} (h:u≤18446744073709551615):(Zht u).length≤20:=by
 have:=Zkm 19 (u / 10) ow
 unfold Zht
 rw [Yd]
 simp only [Yl,Yy]
 omega
theorem Zhe {n:Int} (h : -9223372036854775808≤n∧n≤9223372036854775807):n.natAbs≤18446744073709551615:=by omega
structure Zs7 (u0 i x:Nat) (l:List UInt8):Prop where
 hl:l.length=i
 hi:i≤20
 hx:x<10 ^ (20 - i)
 hb:x≤18446744073709551615
 ok:(i=0∧x=u0∧l = [])∨(0<i∧(Zoy x).map toB++l=(Zht u0).map toB)
theorem Zs7.done {u0 i x:Nat} {l:List UInt8} (h:Zs7 u0 i x l) (h1:i≠0) (h2:x=0):l=(Zht u0).map toB:=by
 rcases h.ok with ⟨h3,_⟩ | ⟨_,h3⟩
 ·exact absurd h3 h1
 ·rw [h2,ZjP] at h3;simpa using h3
theorem ZiD (n:Int):FnP prog 73 [.int .i64 n] (.bs (Zek n)):=by
 refine FnP.mk func73 rfl ntmps73 rfl fun B a w F Z hfr G=>?_
 have hn:=Zn6 (G.range (i:=0) rfl)
 have hz:=ZjI (Zhe hn)
 refine Ya (rZ G (qf (oN (.cs kr)) trivial qz qZ) Z [2,0] [0] fun G=>(Ya (Ya ?_)))
 refine rZ G (qR rr (qf (ZaD .t qi) r1 qz qZ)) Z [4,2,0] [0] fun G=>?_
 refine Zc G rfl (fun hc0=>?_) (fun hc0=>?_)
 ·have hb:n<0:=Yt hc0
  have hu:IntKind.wrap .u64 (0 - IntKind.wrap .u64 n)=(n.natAbs:Int):=by rw [Zao,Zao];omega
  have hg:Zek n=45 :: (Zht n.natAbs).map toB:=Ye hb
  refine Ya (rZ G (qR rr (qf (Zat Ycd kr .t) r1 qz (qf (Zto .t) r1 qz (qf (oP (ZkO n.natAbs (Zhe hn)) func122 (Args.one (.conv .t (.int hu)))) r1 qz (qf (Zbc (.cs kr) .t (by simp only [Yl,Yy,YF];omega)) r1 qz (qO rr qZ)))))) Z [2,0] [0] fun G=>(Yh (Zm ?_)))
  refine Zw hfr G rfl rfl rfl (.bs (by rw [hg];try rfl))
 have hb:¬ n<0:=YE hc0
 have hu:IntKind.wrap .u64 n=(n.natAbs:Int):=by rw [Zao];omega
 have hg:Zek n=(Zht n.natAbs).map toB:=Yb hb
 refine Yf (Za (Ya (rZ G (qR rr (qf (Zat Ycd kr .t) r1 qz (qf (oP (ZkO n.natAbs (Zhe hn)) func122 (Args.one (.conv .t (.int hu)))) r1 qz (qO rr qZ)))) Z [2] [0] fun G=>Yh ?_)))
 refine Zw hfr G rfl rfl rfl (.bs (by rw [hg];try rfl))
end Go.Proofs.YtlkpllemoepamaaGreat
