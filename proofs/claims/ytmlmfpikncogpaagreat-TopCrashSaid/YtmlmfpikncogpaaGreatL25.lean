import Derived.Test.YtmlmfpikncogpaaGreatL24
namespace Go.Proofs.YtmlmfpikncogpaaGreat
open Go.RowKit
set_option linter.unusedSimpArgs false
set_option linter.unusedVariables false
set_option maxRecDepth 100000
set_option maxHeartbeats 16000000
theorem sK (w:World) (n:Int) (g: -9223372036854775808<=n/\n<9223372036854775808):Calls Tryz.prog 119 #[I n] w fun e w'=>e=.returned (.string ⟨(Cod.num n).toArray⟩)/\Z (aa [] w w'):=by
 have H:=bZ (ue w n g);go_enter Tryz.func119,Tryz.ntmps119;go_wp2_with (first
  | (go_at_call 145;refine H.o.mono ?_;rintro e w1 ⟨f,h,c1,rfl,a⟩;have d:=bZ a.o.len;have b:=bZ (bK a.o.own).1;have c:Z (aa [] w w1):=bZ a.o.kp;clear a)
  | (refine br rfl 79 9 (.tmp 4) rfl 5 Tryz.underlying79 Tryz.underlying5 Tryz.underlying9 f (Cod.num n) h c1 rfl d.o b.o ?_))
 go_ret;exact⟨rfl,c⟩
theorem lL {e w b w':World} {d A:Option Addr} {n c m:Nat} {l k:List UInt8} {a:Option Addr} {c':Nat} (h:bC e d w A n c l) (o:aa [] w b) (f:Z (w'.ownsRow 0 5 1 (.slice a (l.length+m) c') (l.length+m) ((l++k).map bv))) (g:Z (b.grownBy w' (Value.slice A n c).ownBlock))
 (i:Z ((Value.slice a (l.length+m) c').ownBlock=(Value.slice A n c).ownBlock\/(Value.slice a (l.length+m) c').ownBlock=some b.heap.size)):bC e d w' a (n+m) c' (l++k):=by
  have j:=h.len;subst j;exact h.app o f g i
theorem d9 (w:World) (A:Option Addr) (n c:Nat) (L:List UInt8) (x:Int) (i:w.ownsRow 0 5 1 (.slice A n c) n (L.map bv)) (p:n<=10000000) (m: -9223372036854775808<=x/\x<9223372036854775808):
 Calls Tryz.prog 86 #[.slice A n c,I x] w (bx w A (L++Cod.num x)):=by
  have H:=bZ (sK w x m);have d:=bZ (bC.start i);have f:Z (ByteArray.size ⟨(Cod.num x).toArray⟩=8):=bZ (by rw[<-Cod.ag x];rfl);clear i;go_enter Tryz.func86,Tryz.ntmps86;go_wp2_with (first
   | (go_at_call 119;refine H.o.mono ?_;rintro e w1 ⟨rfl,b⟩)
   | (at_builtin;refine fh rfl (.tmp 5) (.tmp 7) 79 9 rfl 0 5 Tryz.underlying79 Tryz.underlying9 cY A n c L rfl (ab d.o.own b.o) _ rfl (by rw[f.o];omega) (C3 _) ?_;intro g h w2 j k l;have a:Z (bx w A (L++Cod.num x) (.returned (.slice g (n+ByteArray.size ⟨(Cod.num x).toArray⟩) h)) w2):=bZ ⟨g,_,h,rfl,bZ (d.o.app b.o j k l)⟩;clear j k l))
  go_ret;exact a.o
theorem vy (w:World) (v:Val) (hv:v.ok):Calls Tryz.prog 146 #[.agg #[I v.k,I v.n,.string v.s]] w (bx w none (cP v)):=by
 obtain⟨k,n,s⟩:=v;have B:∀o,(w.alloc o).heap.size=w.heap.size+1:=fun o=>by simp
 rcases hv with ⟨q,F,J⟩ | ⟨q,hn,J⟩ | ⟨q,F,hs,R⟩
 ·dsimp only at q F J ⊢;subst q F J;have M:cP ⟨0,0,⟨#[]⟩⟩=[1]:=rfl;have d:Z (bx w none [1] (.returned (.slice (V (w.heap.size+1)) 1 1)) ((w.alloc (.cells #[I 0,I 0,.string ⟨#[]⟩] 60)).alloc (.cells #[.int .u8 1] 5))):=
   bZ ⟨_,1,1,rfl,bZ (qj (l:=[1]) (by have:=Blk.new (w.alloc (.cells #[I 0,I 0,.string ⟨#[]⟩] 60)) 5 #[.int .u8 1];rw[B] at this;exact this) (((aa.refl [] w).alloc _).alloc _) (Nat.le_succ _) rfl (by simp[maxLen]))⟩
  rw[M];go_enter Tryz.func146,Tryz.ntmps146;go_wp2_with fail;go_ret;exact d.o
 ·dsimp only at q hn J ⊢;subst q J;have M:cP ⟨1,n,⟨#[]⟩⟩=[2]++Cod.num n:=rfl;rw[M];have f:Z (bC w none ((w.alloc (.cells #[I 1,I n,.string ⟨#[]⟩] 60)).alloc (.cells #[.int .u8 2] 5)) (V (w.heap.size+1)) 1 1 [2]):=
   bZ (qj (l:=[2]) (by have:=Blk.new (w.alloc (.cells #[I 1,I n,.string ⟨#[]⟩] 60)) 5 #[.int .u8 2];rw[B] at this;exact this) (((aa.refl [] w).alloc _).alloc _) (Nat.le_succ _) rfl (by simp[maxLen]))
  have y1:((w.alloc (.cells #[I 1,I n,.string ⟨#[]⟩] 60)).alloc (.cells #[.int .u8 2] 5)).cell? (U w.heap.size 1)=some (I n):=((Blk.new w 60 #[I 1,I n,.string ⟨#[]⟩]).alloc _).cell 1;generalize a3:(w.alloc (.cells #[I 1,I n,.string ⟨#[]⟩] 60)).alloc (.cells #[.int .u8 2] 5)=w2 at*;have H:=bZ (ue w2 n hn);go_enter Tryz.func146,Tryz.ntmps146;go_wp2_with (first
   | (go_at_call 145;refine H.o.mono ?_;rintro e w3 ⟨A3,n3,c3,rfl,i⟩;have O:=i.o.len;rw[Cod.ag] at O;subst O;have X:=bZ (bK i.o.own).1;have N:Z (aa [] w2 w3):=bZ i.o.kp;clear i)
   | (at_builtin;refine ai rfl (.tmp 8) (.tmp 11) 79 rfl 0 5 Tryz.underlying79 cY _ [2] (Cod.num n) rfl (ab f.o.own N.o) A3 8 c3 rfl (Cod.ag n) X.o (by rw[Cod.ag];decide) (C3 _) ?_;intro u x Q r p t;have d:Z (bx w none ([2]++Cod.num n) (.returned (.slice u 9 x)) Q):=bZ ⟨u,9,x,rfl,bZ (lL f.o N.o r p t)⟩;clear r p t))
  go_ret;exact d.o
 dsimp only at q F hs R ⊢;subst q F;have M:cP ⟨2,0,s⟩=3::(s.data.toList++[0]):=rfl;rw[M];have f:Z (bC w none ((w.alloc (.cells #[I 2,I 0,.string s] 60)).alloc (.cells #[.int .u8 3] 5)) (V (w.heap.size+1)) 1 1 [3]):=
  bZ (qj (l:=[3]) (by have:=Blk.new (w.alloc (.cells #[I 2,I 0,.string s] 60)) 5 #[.int .u8 3];rw[B] at this;exact this) (((aa.refl [] w).alloc _).alloc _) (Nat.le_succ _) rfl (by simp[maxLen]))
 have Y:Z (Blk ((w.alloc (.cells #[I 2,I 0,.string s] 60)).alloc (.cells #[.int .u8 3] 5)) w.heap.size 60 #[I 2,I 0,.string s]):=bZ ((Blk.new w 60 #[I 2,I 0,.string s]).alloc _);replace R:=bZ R;go_enter Tryz.func146,Tryz.ntmps146;go_wp2_with fail;go_loopw [3,4] (fun ov D wr=>∃(j:Nat) (A:Option Addr) (n c:Nat),j<=s.size/\n<=j+1/\D=I (j:Int)/\ov=.slice A n c/\Z (bC w none wr A n c (3::s.data.toList.take j))/\Z (Blk wr w.heap.size 60 #[I 2,I 0,.string s])) (fun _ D _=>s.size - (intOf D).toNat)
 case atStart=>exact⟨0,_,1,1,C3 _,C9 _,rfl,rfl,f,Y⟩
 obtain⟨j,A,n,c,hj,a2,rfl,rfl,E,K⟩:=hrel;clear f Y;have y2:=K.o.cell 2;have a:=E.o.len;have P:n=j+1:=by rw[<-a,Dj,CY];have:s.data.toList.length=s.size:=DO;omega
 have S:Z (∀y∈fb A,y≠w.heap.size):=bZ (fun y hy h=>by
  obtain⟨_,_,a0,h3⟩:=aw E.o.own hy;subst h;exact(K.o.ne_ h3 (by decide)) rfl)
 replace a:=bZ a;by_cases b:j<s.size
 ·have a1:(j:Int)<(s.size:Int):=by omega
  have wj:IntKind.i64.wrap ((j:Int)+1)=(j:Int)+1:=C0 _ (by omega);have L:=R.o _ (CW (eR s b));have e0:((((s[j]'b).toNat:Nat):Int)==0)=false:=beq_false_of_ne (by omega);have e1:((((s[j]'b).toNat:Nat):Int)==1)=false:=beq_false_of_ne (by omega);have C:Z (3::s.data.toList.take (j+1)=(3::s.data.toList.take j)++[s[j]'b]):=bZ (by rw[j5 b];rfl);have z:Z (Bts (wr.alloc (.cells #[.int .u8 (((s[j]'b).toNat:Nat):Int)] 5)) (V wr.heap.size) [s[j]'b]):=bZ (ik rfl rfl);replace L:=bZ L;clear P;have T:=K;clear K;have g:aa [] wr (wr.alloc (.cells #[.int .u8 (((s[j]'b).toNat:Nat):Int)] 5)):=(aa.refl [] wr).alloc _;replace g:=bZ g;go_wp2_with (at_builtin;refine ai rfl (.tmp 29) (.tmp 34) 79 rfl 0 5 Tryz.underlying79 cY _ (3::s.data.toList.take j) [s[j]'b] rfl (by rw[a.o];exact ab E.o.own g.o) (V wr.heap.size) 1 1 rfl rfl z.o (by rw[a.o,DE];omega) (C3 _) ?_;intro u x Q r p t;rw[a.o];have m:=bZ (lL E.o g.o r p t);have W:Z (Blk Q w.heap.size 60 #[I 2,I 0,.string s]):=bZ (T.o.keep (g.o.nil.trans (aa.grown p.o (fun k hk=>cW hk))) (fun hm=>S.o _ hm rfl));clear r p t);go_roundw
  case rel=>exact⟨j+1,u,n+1,x,by omega,by omega,by go_num,rfl,bZ (by rw[C.o];exact m.o),W⟩
  case measure=>simp[intOf];omega
 obtain rfl:j=s.size:=by omega
 have C:Z (3::s.data.toList.take s.size=3::s.data.toList):=bZ (by rw[C6 (by rw[DO];exact C9 _)]);have z:Z (Bts (wr.alloc (.cells #[.int .u8 0] 5)) (V wr.heap.size) [0]):=bZ (ik rfl rfl);have g:aa [] wr (wr.alloc (.cells #[.int .u8 0] 5)):=(aa.refl [] wr).alloc _;replace g:=bZ g;clear K P;go_wp2_with (at_builtin;refine ai rfl (.tmp 46) (.tmp 47) 79 rfl 0 5 Tryz.underlying79 cY _ (3::s.data.toList.take s.size) [0] rfl (by rw[a.o];exact ab E.o.own g.o) (V wr.heap.size) 1 1 rfl rfl z.o (by rw[a.o,DE];omega) (C3 _) ?_;intro u x Q r p t;rw[a.o];have m:=bZ (lL E.o g.o r p t);have d:Z (bx w none (3::(s.data.toList++[0])) (.returned (.slice u (n+1) x)) Q):=bZ ⟨u,n+1,x,rfl,bZ (by have:=m.o;rw[C.o] at this;exact this)⟩;clear r p t m);go_ret;exact d.o
theorem zO (w:World) (X:List Nat) (A:Option Addr) (l:List Val) (n c:Nat) (y:l.length=n) (z:ah w X A l) (hn:n<=10000) (J:∀v∈l,v.ok):Calls Tryz.prog 120 #[.slice A n c] w (bx w none (ca l)):=by
 replace z:=bZ z;replace y:=bZ y;replace J:=bZ J;have u:=bZ (bC.nil w);go_enter Tryz.func120,Tryz.ntmps120;go_wp2_with fail;go_loopw [3,4] (fun W i wr=>∃(j:Nat) (B:Option Addr) (m d:Nat),j<=n/\m<=18*j/\i=I (j:Int)/\W=.slice B m d/\Z (bC w none wr B m d (ca (l.take j)))) (fun _ i _=>n - (intOf i).toNat)
 case atStart=>exact⟨0,none,0,0,C3 _,C3 _,rfl,rfl,u⟩
 obtain⟨j,B,m,d,hj,hm,rfl,rfl,p⟩:=hrel;clear u;have a:=bZ p.o.len;by_cases E:j<n
 ·have S:(j:Int)<(n:Int):=by omega
  obtain⟨v,b⟩:∃v,l[j]? =some v:=⟨_,CT (by rw[y.o];exact E)⟩;have h:=J.o v (CW b);have F:Z (ca (l.take (j+1))=ca (l.take j)++cP v):=bZ (by rw[Dq,b,lV];rw[<-yK v];rfl);obtain⟨g,off,rfl,Y,x0,x1,x2⟩:=(z.o.shift (X':=X) p.o.kp (by simp[fb]) (fun x T=>.inl T)) j v b;have wj:IntKind.i64.wrap ((j:Int)+1)=(j:Int)+1:=C0 _ (by omega);have H:=bZ (vy wr v h);obtain⟨q,k⟩:∃q,q=(cP v).length:=⟨_,rfl⟩;have K:q<=18:=by rw[k];exact(gM h).2
  replace k:=bZ k;replace b:=bZ b;clear h;go_wp2_with (first
   | (go_at_call 146;refine H.o.mono ?_;rintro e w3 ⟨O,n3,Q,rfl,f⟩;have t:=f.o.len;rw[<-k.o] at t;subst t;have D:=bZ (bK f.o.own).1;have s:Z (aa [] wr w3):=bZ f.o.kp;clear f)
   | (at_builtin;refine ai rfl (.tmp 11) (.tmp 16) 79 rfl 0 5 Tryz.underlying79 cY _ (ca (l.take j)) (cP v) rfl (by rw[a.o];exact ab p.o.own s.o) O q Q rfl k.o.symm D.o (by rw[a.o,<-k.o];omega) (C3 _) ?_;intro P R w4 L M N;rw[a.o];have C:=bZ (lL p.o s.o L M N);clear L M N))
  go_roundw
  case rel=>exact⟨j+1,P,m+q,R,by omega,by omega,by go_num,rfl,bZ (by rw[F.o];exact C.o)⟩
  case measure=>simp[intOf];omega
 obtain rfl:j=n:=by omega
 have r:Z (bx w none (ca l) (.returned (.slice B m d)) wr):=bZ ⟨B,m,d,rfl,bZ (by have:=p.o;rwa [C6 (by rw[y.o];exact C9 _)] at this)⟩;go_wp2_with fail;go_ret;exact r.o
theorem sJ (w:World) (X:List Nat) (B:Option Addr) (m d:Nat) (L:List UInt8) (A:Option Addr) (l:List Val) (n c:Nat) (J:l.length=n) (H:ah w X A l) (T:n<=10000) (C:∀v∈l,v.ok) (t:w.ownsRow 0 5 1 (.slice B m d) m (L.map bv)) (K:m<=9000000):
 Calls Tryz.prog 87 #[.slice B m d,.slice A n c] w (bx w B (L++dX l)):=by
  have Q:=bZ (zO w X A l n c J H T C);have i:=bZ (bC.start t);obtain⟨q,g⟩:∃q,q=(ca l).length:=⟨_,rfl⟩;have M:q<=180000:=by rw[g];have:=(fF l C).2;omega
  have S:Z (L++dX l=(L++Cod.num (q:Int))++ca l):=bZ (by unfold dX;rw[g,Dd]);have R:Z (∀W,aa [] w W->Calls Tryz.prog 86 #[.slice B m d,I (q:Int)] W (bx W B (L++Cod.num (q:Int)))):=bZ (fun W k=>d9 W B m d L q (ab t k) (by omega) (by omega));replace g:=bZ g;clear t H J C;go_enter Tryz.func87,Tryz.ntmps87;go_wp2_with (first
   | (go_at_call 120;refine Q.o.mono ?_;rintro e w1 ⟨D,n1,c1,rfl,f⟩;have r:=f.o.len;rw[<-g.o] at r;subst r;have p:Z (aa [] w w1):=bZ f.o.kp)
   | (go_at_call 86;refine(R.o _ p.o).mono ?_;rintro e w2 ⟨A2,n2,c2,rfl,b⟩;have s:=b.o.len;rw[CU,Cod.ag,i.o.len] at s;subst s;have z:Z (Bts w2 D (ca l)):=bZ ((bK f.o.own).1.kp b.o.kp (fun y Y K=>by
    rcases f.o.nw y K with h | h
    ·simp[fb] at h
    have:=(aw i.o.own Y).2.1;omega));have a:=bZ b.o.len)
   | (at_builtin;refine ai rfl (.tmp 11) (.tmp 12) 79 rfl 0 5 Tryz.underlying79 cY _ (L++Cod.num (q:Int)) (ca l) rfl (by rw[a.o];exact b.o.own) D q c1 rfl g.o.symm z.o (by rw[a.o,<-g.o];omega) (C3 _) ?_;intro E F w4 N O P;rw[a.o];have u:=bZ (((i.o.keep p.o).then_ b.o));have x:=bZ (lL u.o (aa.refl [] _) N O P);have j:Z (bx w B (L++dX l) (.returned (.slice E (m+8+q) F)) w4):=bZ ⟨E,_,F,rfl,bZ (by rw[S.o];exact x.o)⟩;clear N O P))
  go_ret;exact j.o
theorem rq {P:Program} {w:World} {b:TypeId} {d:TypeDesc} {g:Nat} {t:TypeId} {cs:Array Value} (h:Blk w g t cs) (m:P.underlying b=some d) (o:(match d with | .struct _ | .array _ _=>true | _=>false)=true) (f:(P.info? b).map (·.size)=some cs.size):(loadVar b (U g 0)).run P w=.ok (.agg cs) w:=by
 have k:=run_loadCells_list (P:=P) w (U g 0) cs.toList (fun j v n=>by
  rw[Go.WideShapes.add_plain,h.cell];simpa using n)
 cases e:P.info? b with
 | none=>simp[e] at f
 | some i=>
  have l:i.size=cs.size:=by simpa [e] using f
  have a:(isAgg b).run P w=.ok true w:=by
   unfold isAgg;rw[DM,run_underlying m w];cases d<;>simp_all
  have c:(loadCells (U g 0) cs.size).run P w=.ok cs w:=by simpa using k
  simp[loadVar,DM,a,sizeOf,typeInfo,e,l,c]
theorem jN {P:Program} {e:Func} {tmps:Array Value} {w:World} {a:Nat} {c:TypeId} {d:TypeDesc} {g:Nat} {t:TypeId} {cs:Array Value} (j:e.results=#[.cell a c]) (f:tmps.getD a undef=.pointer (V g)) (k:Blk w g t cs) (m:P.underlying c=some d)
 (i:(match d with | .struct _ | .array _ _=>true | _=>false)=true) (l:(P.info? c).map (·.size)=some cs.size):(results e tmps).run P w=.ok (.agg cs) w:=by
  have h:=rq (P:=P) k m i l;have b:tmps[a]?.getD undef=.pointer (V g):=by simpa using f
  simp[results,j,b,asAddr,h]
theorem cL {P:Program} {i:Func} {tmps:Array Value} {w:World} {a b:Nat} {f:TypeId} {d:TypeDesc} {g:Nat} {t:TypeId} {cs:Array Value} {v:Value} (m:i.results=#[.cell a f,.tmp b]) (j:tmps.getD a undef=.pointer (V g)) (k:tmps.getD b undef=v) (n:Blk w g t cs) (p:P.underlying f=some d)
 (l:(match d with | .struct _ | .array _ _=>true | _=>false)=true) (o:(P.info? f).map (·.size)=some cs.size):(results i tmps).run P w=.ok (.tuple #[.agg cs,v]) w:=by
  have h:=rq (P:=P) n p l o;have c:tmps[a]?.getD undef=.pointer (V g):=by simpa using j
  have e:tmps[b]?.getD undef=v:=by simpa using k
  simp[results,m,c,e,asAddr,h]
theorem uz:(Tryz.prog.info? 117).map (fun i=>(i.zero,i.size,i.bytes))=some (some (.agg #[I 0,.slice none 0 0]),2,32):=by kernel_rfl
def f8 (w:World) (X:List Nat) (cols:Nat) (l:Tab) (a:Int) (e:Ending) (w':World):Prop:=∃A n c,e=.returned (.agg #[I (cols:Int),.slice A n c,I a])/\l.length=n/\Z (gg w' X A cols l)/\Z (aa [] w w')
theorem o8 {w:World} {X:List Nat} {b:Nat} (a:∀x∈X,x<w.heap.size) (c:w.heap.size<=b):b∉X:=fun h=>by have:=a b h;omega
theorem aL.imp {w:World} {P Q:Nat->Prop} {A:Option Addr} {b:List Value} (h:aL w P A b) (a:∀g,P g->Q g):aL w Q A b:=fun i v f=>by
 obtain⟨g,off,c,d,e⟩:=h i v f;exact⟨g,off,c,a g d,e⟩
theorem ye {a w:World} {X:List Nat} {b n c cols:Nat} {A:Option Addr} {d:List aD} {l:Tab} (f:aJ (ei a X cols) d l) (e:w.ownsRow b 117 2 (.slice A n c) n (bE (d.map aD.ent))) (m:aa [] a w) (j:a.heap.size<=b) (i:∀x∈X,x<a.heap.size):gg w X A cols l:=
 ⟨d,aJ.mono f (fun r _ x _ h=>h.shift m (by simp) (fun x o=>.inl o)),(aL.own e (by decide)).imp (fun g k=>o8 i (Dc j (aw e k).1))⟩
theorem vS (a:List Ent):(bE a).length=a.length*2:=by
 induction a with
 | nil=>rfl
 | cons x r ih=>
  have:bE (x::r)=x.1::x.2::bE r:=rfl;rw[this,Dj,Dj,ih,Dj];omega
theorem fD (a:List aD) (r:aD):bE ((a++[r]).map aD.ent)=bE (a.map aD.ent)++[I r.k,.slice r.A r.n r.c]:=by
 rw[DX,eQ];rfl
theorem vE (w:World) (X:List Nat) (cols:Nat) (A:Option Addr) (n c:Nat) (a id:Int) (l:Tab) (hl:l.length=n) (hI:gg w X A cols l) (hn:n<=1000000) (hX:∀x∈X,x<w.heap.size):
 Calls Tryz.prog 67 #[.agg #[I (cols:Int),.slice A n c,I a],I id] w (f8 w X cols (bS id l) a):=by
  obtain⟨i0,hi,H,J,K⟩:=info_parts uz;obtain⟨rs,hR,hC⟩:=hI;have s:rs.length=n:=by rw[hR.len,hl]
  have T:aa [] w ((w.alloc (.cells #[I (cols:Int),.slice A n c,I a] 115)).alloc (.cells #[I 0,.slice none 0 0,I 0] 115)):=((aa.refl [] w).alloc _).alloc _;have Y:=(Blk.new w 115 #[I (cols:Int),.slice A n c,I a]).alloc (.cells #[I 0,.slice none 0 0,I 0] 115);have Q:=Blk.new (w.alloc (.cells #[I (cols:Int),.slice A n c,I a] 115)) 115 #[I 0,.slice none 0 0,I 0];have a4:(w.alloc (.cells #[I (cols:Int),.slice A n c,I a] 115)).heap.size=w.heap.size+1:=by simp
  rw[a4] at Q;have E:=hC.shift (X':=X) T (by simp) (fun x hx=>.inl hx);generalize a6:(w.alloc (.cells #[I (cols:Int),.slice A n c,I a] 115)).alloc (.cells #[I 0,.slice none 0 0,I 0] 115)=w2 at*;have u:w.heap.size+2=w2.heap.size:=by rw[<-a6];simp
  obtain⟨p,R⟩:∃p:aD->Bool,p=fun r=>!decide (r.k=id):=⟨_,rfl⟩;have D:Z (aJ (ei w X cols) (rs.filter p) (bS id l)):=bZ (by
   unfold bS;exact hR.filter (fun r _ x _ h=>by rw[R];simp[h.1]))
  replace E:=bZ E;replace hl:=bZ hl;replace s:=bZ s;replace T:=bZ T;replace hi:=bZ hi;replace H:=bZ H;replace J:=bZ J;replace K:=bZ K;replace hX:=bZ hX;replace Y:=bZ Y;replace Q:=bZ Q;replace R:=bZ R;replace u:=bZ u;clear hR hC;go_enter Tryz.func67,Tryz.ntmps67;go_wp2_with fail;go_loopw [5,6] (fun ov L wr=>∃(j:Nat) (B:Option Addr) (e C:Nat),j<=n/\e<=j/\L=I (j:Int)/\ov=.slice B e C/\Z (((rs.take j).filter p).length=e)/\Z (wr.ownsRow w2.heap.size 117 2 (.slice B e C) e (bE (((rs.take j).filter p).map aD.ent)))/\Z (aa [] w2 wr)) (fun _ L _=>n - (intOf L).toNat)
  case atStart=>exact⟨0,none,0,0,C3 _,C9 _,rfl,rfl,bZ rfl,bZ (bQ _ _ _ _),bZ (aa.refl _ _)⟩
  obtain⟨j,B,e,C,hj,ac,rfl,rfl,m,b,F⟩:=hrel;have d:Blk wr w.heap.size 115 #[I (cols:Int),.slice A n c,I a]:=Y.o.keep F.o (by simp);have y1:=d.cell 1;by_cases a1:j<n
  ·have a9:(j:Int)<(n:Int):=by omega
   obtain⟨r,S⟩:∃r,rs[j]? =some r:=⟨_,CT (by rw[s.o];exact a1)⟩;obtain⟨g,off,rfl,hg,x0,x1⟩:=gF (E.o.shift (X':=X) F.o (by simp) (fun x hx=>.inl hx)) S;have wj:IntKind.i64.wrap ((j:Int)+1)=(j:Int)+1:=C0 _ (by omega);have z:rs.take (j+1)=rs.take j++[r]:=by rw[Dq,S];rfl
   have q:p r=!decide (r.k=id):=by rw[R.o]
   by_cases f:r.k=id
   ·have O:(r.k !=id)=false:=by simp[f]
    have N:Z ((rs.take (j+1)).filter p=(rs.take j).filter p):=bZ (by rw[z,Eh,DF,if_neg (by simp[q,f]),List.filter_nil,DA]);clear z q f S d;go_wp2_with fail;go_roundw
    case rel=>exact⟨j+1,B,e,C,by omega,by omega,by go_num,rfl,by rw[N.o];exact m,by rw[N.o];exact b,F⟩
    case measure=>simp[intOf];omega
   have O:(r.k !=id)=true:=by simpa using f
   have N:Z ((rs.take (j+1)).filter p=(rs.take j).filter p++[r]):=bZ (by rw[z,Eh,DF,if_pos (by simp[q,f]),List.filter_nil]);have a3:=bZ (ab b.o ((aa.refl [] wr).alloc (.cells #[I r.k,.slice r.A r.n r.c] 117)));have B9:=bZ (Blk.new wr 117 #[I r.k,.slice r.A r.n r.c]);have a5:Z (w2.heap.size<=(wr.alloc (.cells #[I r.k,.slice r.A r.n r.c] 117)).heap.size):=bZ (Dc F.o.size ((aa.refl [] wr).alloc _).size);clear z q f S d;go_wp2_with (at_builtin;refine ae (by rfl) (.tmp 22) (.tmp 28) 113 rfl w2.heap.size 117 i0 (.agg #[I 0,.slice none 0 0]) 2 32 Tryz.underlying113 hi.o H.o J.o K.o rfl (by decide) (.slice B e C) e _ rfl a3.o (V wr.heap.size) 1 1 [I r.k,.slice r.A r.n r.c] rfl rfl (aI (off:=0) (l:=[I r.k,.slice r.A r.n r.c]) B9.o (by simp) 1) (by simp[Value.oneCell']) (by unfold maxLen;omega) (by omega) a5.o ?_;intro v6 w6 q1 q2 _ q4;have KK:=bZ (aF F.o ((aa.refl [] wr).alloc (.cells #[I r.k,.slice r.A r.n r.c] 117)) b.o q2.o);obtain⟨a7,a8,rfl,O6,K6,N6⟩:=bR (A:=B) (n:=e) (c:=C) q1 q2 q4);go_roundw
   case rel=>exact⟨j+1,a7,e+1,a8,by omega,by omega,by go_num,rfl,bZ (by rw[N.o,CU,m.o];rfl),bZ (by rw[N.o,fD];exact O6.o),KK⟩
   case measure=>simp[intOf];omega
  obtain rfl:j=n:=by omega
  have M:rs.take j=rs:=C6 (by rw[s.o];exact C9 _);rw[M] at m b;have i:Blk wr (w.heap.size+1) 115 #[I 0,.slice none 0 0,I 0]:=Q.o.keep F.o (by simp);have a0:Z (∀W,aa [w.heap.size,w.heap.size+1] wr W->f8 w X cols (bS id l) a (.returned (.agg #[I (cols:Int),.slice B e C,I a])) W):=bZ (fun W k=>by
   have u:=u.o;have k2:aa [] w W:=(T.o.trans F.o).more k (fun y P=>by simp at P;rcases P with rfl | rfl<;>exact .inr (by omega));refine⟨B,e,C,rfl,by rw[<-D.o.len,m.o],bZ (ye D.o (aq b.o k (fun y P hm=>by have:=(aw b.o hm).1;simp at P;rcases P with rfl | rfl<;>omega)) k2 (by omega) hX.o),bZ k2⟩)
  have yb:=d.cell;have yf:=d.frozen;have zb:=i.cell;have zf:=i.frozen;replace d:=bZ d;replace i:=bZ i;go_wp2_with fail;have a2:w.heap.size+1≠w.heap.size:=by omega
  refine bodyPost_ret (v:=.agg #[I (cols:Int),.slice B e C,I a]) (jN (g:=w.heap.size+1) (t:=115) rfl rfl ((((i.o.far (p:=(U w.heap.size 1)) a2 _).set_ 0 _).set_ 1 _).set_ 2 _) Tryz.underlying115 rfl (by kernel_rfl)) rfl ?_;refine a0.o _ ?_;refine((((aa.refl _ wr).setCell (.inl (by simp)) _).setCell (.inl (by simp)) _).setCell (.inl (by simp)) _).setCell (.inl (by simp)) _
end Go.Proofs.YtmlmfpikncogpaaGreat
