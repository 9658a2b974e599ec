import Derived.Test.YtmlmfpikncogpaaGreatL47
namespace Go.Proofs.YtmlmfpikncogpaaGreat
open Go.RowKit
set_option linter.unusedSimpArgs false
set_option linter.unusedVariables false
set_option maxRecDepth 100000
set_option maxHeartbeats 16000000
theorem wK {w:World} {b c:Nat} (e:Blk w b 58 #[.string ⟨#[120]⟩,I 1,I 0,I 9,I 0,.bool false]) (f:Blk w c 32 #[.string ⟨#[116]⟩,.slice (V b) 1 1,.slice none 0 0,.slice none 0 0,.slice none 0 0]):
 dU w (fun _=>True) (V c) [[.string ⟨#[116]⟩,.slice (V b) 1 1,.slice none 0 0,.slice none 0 0,.slice none 0 0]] [1]:=by
  refine⟨fun i v a=>⟨c,0,rfl,trivial,by rw[Dl,f.cell];simpa using a⟩,⟨⟨⟨#[116]⟩,V b,1,none,0,0,none,0,0,none,0,0,[.string ⟨#[120]⟩,I 1,I 0,I 9,I 0,.bool false],[],[],rfl,rfl,fun u d=>?_,fun i v a=>⟨b,0,rfl,trivial,by rw[Dl,e.cell];simpa using a⟩,rfl,by decide,fun i v a=>(by simp at a),fun v g=>(by cases g),rfl,by decide,fun i v a=>(by simp at a),fun i a=>absurd a (Fr _)⟩,by decide⟩,trivial⟩;simp only[Db,Dw,or_false] at d;rcases d with rfl | rfl | rfl | rfl | rfl | rfl<;>rfl
def awC:List Chg:=[⟨0,1,[],[⟨1,3,⟨#[]⟩⟩]⟩]
theorem wO {w:World} {d f:Nat} (e:Blk w d 60 #[I 1,I 3,.string ⟨#[]⟩]) (c:Blk w f 64 #[I 0,I 1,.slice none 0 0,.slice (V d) 1 1]):iC w [] (V f) awC:=by
 intro i x a
 match i,a with
 | 0,a=>
  simp only[awC,D5,Option.some.injEq] at a;subst a;refine⟨f,0,none,0,V d,1,rfl,by simp,c.cell 0,c.cell 1,c.cell 2,c.cell 3,ah.nil _ _ _,fun j v b=>?_⟩
  match j,b with
  | 0,b=>
   simp only[D5,Option.some.injEq] at b;subst b;exact⟨d,0,rfl,by simp,e.cell 0,e.cell 1,e.cell 2⟩
  | j+1,b=>simp at b
 | i+1,a=>simp[awC] at a
theorem wM:(di [emp 1] (fun _=>0) 0 0 1 awC).2.isSome=true:=by rfl
theorem wL:∀c∈awC,c.old.length<=10/\c.new.length<=10/\(∀v∈c.old,v.fits)/\(∀v∈c.new,v.fits):=by
 intro c b;simp only[awC,CZ] at b;subst b;refine⟨by decide,by decide,fun v a=>(by cases a),fun v a=>?_⟩;simp only[CZ] at a;subst a;exact⟨by decide,by decide⟩
def Ce (w:World) (x f c d:Nat) (s:Dk.St) (e:Ending) (w':World):Prop:=∃a b,e=.returned (I 0)/\Z (aa [x,f,c,d] w w')/\Z (Dk.aZ w' c d b)/\Z (0<=b.writes/\b.writes<=s.writes+2000)/\Z (On 100 b a (upd (fun _=>0) 0 1)/\a.map (·.cols)=[1])
theorem tI {w:World} {x c f d:Nat} {s:Dk.St} {ep:Nat} {args:Array Value} (h:Calls Tryz.prog 14 args w (Bi w x c f d 100 s ([1].map emp) (fun _=>0) ep [] 0 0 1 awC)) (i:s.left=0):Calls Tryz.prog 14 args w (Ce w x d c f s):=by
 refine h.mono ?_;rintro e w' ⟨v,rfl,a⟩;have g:(di ([1].map emp) (fun _=>0) (([]:List UInt8).length:Int) 0 1 awC).2.isSome=true:=wM;rcases a.o with ⟨j,_⟩ | ⟨b,t,_,k,l,m,_,_,n,p⟩
 ·rw[j] at g;cases g
 rcases p with ⟨_,_,q,_⟩ | ⟨rfl,_,_,u,_,_,r⟩
 ·exact absurd i q
 exact⟨b,t,rfl,bZ k,bZ l,bZ m,bZ ⟨r.on (by decide),n⟩⟩
theorem BZ (w:World):Calls Tryz.prog 4 #[] w fun e w'=>e=.returned (.bool true)/\Z (aa [] w w'):=by
 have X:aa [] w ((w.alloc (.cells #[.string ⟨#[120]⟩,I 1,I 0,I 9,I 0,.bool false] 58)).alloc (.cells #[.string ⟨#[116]⟩,.slice (V w.heap.size) 1 1,.slice none 0 0,.slice none 0 0,.slice none 0 0] 32)):=((aa.refl [] w).alloc _).alloc _;have B1:=(Blk.new w 58 #[.string ⟨#[120]⟩,I 1,I 0,I 9,I 0,.bool false]).alloc (.cells #[.string ⟨#[116]⟩,.slice (V w.heap.size) 1 1,.slice none 0 0,.slice none 0 0,.slice none 0 0] 32);have J:=Blk.new (w.alloc (.cells #[.string ⟨#[120]⟩,I 1,I 0,I 9,I 0,.bool false] 58)) 32 #[.string ⟨#[116]⟩,.slice (V w.heap.size) 1 1,.slice none 0 0,.slice none 0 0,.slice none 0 0];rw[show (w.alloc (.cells #[.string ⟨#[120]⟩,I 1,I 0,I 9,I 0,.bool false] 58)).heap.size=w.heap.size+1 by simp] at J;generalize a3:(w.alloc (.cells #[.string ⟨#[120]⟩,I 1,I 0,I 9,I 0,.bool false] 58)).alloc (.cells #[.string ⟨#[116]⟩,.slice (V w.heap.size) 1 1,.slice none 0 0,.slice none 0 0,.slice none 0 0] 32)=w1 at*;have P:=wK B1 J;have HS:Z (∀W Y,aa Y w1 W->(∀y∈Y,w1.heap.size<=y)->dU W (fun _=>True) (V (w.heap.size+1)) _ [1]):=bZ (fun W Y k hY=>P.move k (fun x hx _=>⟨fun hm=>by have:=hY x hm;omega,trivial⟩));have H7:=bZ (nP w1 (fun _=>True) (V (w.heap.size+1)) 1 1 _ [1] P rfl (by decide) (fun c hc=>by simp at hc;subst hc;decide));replace X:=bZ X;clear P B1 J;go_enter Tryz.func4,Tryz.ntmps4;go_upto_region 3 with (go_at_call 7;refine H7.o.mono ?_;rintro e w2 ⟨d,f,x,F,s,ep,rfl,Q,B,a,T⟩;clear H7);have kc:aa [] w2 ((w2.alloc (.cells #[I 1,I 3,.string ⟨#[]⟩] 60)).alloc (.cells #[I 0,I 1,.slice none 0 0,.slice (V w2.heap.size) 1 1] 64)):=((aa.refl [] w2).alloc _).alloc _;have B3:=(Blk.new w2 60 #[I 1,I 3,.string ⟨#[]⟩]).alloc (.cells #[I 0,I 1,.slice none 0 0,.slice (V w2.heap.size) 1 1] 64);have K:=Blk.new (w2.alloc (.cells #[I 1,I 3,.string ⟨#[]⟩] 60)) 64 #[I 0,I 1,.slice none 0 0,.slice (V w2.heap.size) 1 1];rw[show (w2.alloc (.cells #[I 1,I 3,.string ⟨#[]⟩] 60)).heap.size=w2.heap.size+1 by simp] at K;generalize a4:(w2.alloc (.cells #[I 1,I 3,.string ⟨#[]⟩] 60)).alloc (.cells #[I 0,I 1,.slice none 0 0,.slice (V w2.heap.size) 1 1] 64)=w3 at*;have r:=bZ (tI (jU w3 x d f F 100 s ([1].map emp) (fun _=>0) ep [] 0 (B.o.keep0 kc) a.o.1 (by decide) 0 (by decide) 1 (by decide) (V (w2.heap.size+1)) awC 1 1 rfl (by decide) (wO B3 K) wL a.o.2.2.1 (by have:=a.o.2.2.2;omega) (by decide)) a.o.2.1);have a0:Z (aa [] w1 w3):=bZ (Q.o.trans kc);clear B3 K kc B;go_upto_region 5 with (go_at_call 14;refine r.o.mono ?_;rintro e w4 ⟨p,n,rfl,R,u,E,z⟩;clear r);have A:Z (∀y∈[x,F,d,f],w1.heap.size<=y):=bZ (fun y H=>by have:=T.o;simp at H;rcases H with rfl | rfl | rfl | rfl<;>omega);have C:Z (aa [x,F,d,f] w1 w4):=bZ (a0.o.nil.trans R.o);have q:=bZ (Dk.nS w4 d f n u.o);have O:Z (On 100 (Dk.bB (Dk.fail n)) p (upd (fun _=>0) 0 1)):=bZ (z.o.1.same rfl rfl);have b:Z ((Dk.bB (Dk.fail n)).left=0/\(Dk.bB (Dk.fail n)).down=false/\(Dk.bB (Dk.fail n)).writes=n.writes):=bZ ⟨rfl,rfl,rfl⟩;go_upto_region 6 with (go_at_call 12;refine q.o.mono ?_;rintro e w5 ⟨rfl,v,l⟩;replace l:=bZ l;clear q);have t:=bZ (Dk.iH w5 d f _ v);generalize Dk.bB (Dk.fail n)=s6 at*;clear v u;go_upto_region 7 with (go_at_call 17;refine t.o.mono ?_;rintro e w6 ⟨rfl,j,m⟩;replace m:=bZ m;replace j:=bZ j;clear t);have i:Z (aa [x,F,d,f] w1 w6):=bZ ((C.o.trans (l.o.mono (by simp))).trans (m.o.mono (by simp)));have L:=bZ (iM w6 d f 100 s6 j.o b.o.2.1 p _ O.o (by decide) (by rw[b.o.2.2];exact E.o.1) (by rw[b.o.2.2];have:=E.o.2;have:=a.o.2.2.2;omega) (fun _=>True) _ 1 1 _ [1] (HS.o w6 _ i.o A.o) rfl (by decide) z.o.2);go_wp2_with (first
  | (go_at_call 11;refine L.o.mono ?_;rintro e w7 ⟨v7,er,s7,rfl,S,a2,a5,D⟩;obtain⟨rfl,y,a1,N,rfl,_,_,g,_,_,_⟩:=D.o.resolve_left (fun h=>h.2.2.2.2.1 b.o.1);have M:=bZ (lW w7 y d f s7 p _ N _ g.pre 0 (by decide));clear D g)
  | (go_at_call 18;refine M.o.mono ?_;rintro e w8 ⟨rfl,rfl⟩))
 go_ret;exact⟨rfl,bZ (X.o.trans ((i.o.trans (S.o.mono (by simp))).mono (fun y H=>.inr (A.o y H))))⟩
theorem mj.keep {w w':World} {v:Value} {n:Nat} (h:mj w (fun _=>True) v n) (f:aa [] w w'):mj w' (fun _=>True) v n:=by
 obtain⟨A,c,k,a,b,d,e⟩:=h;exact⟨A,c,k,a,b,d,e.move f (fun _ _ _=>⟨by simp,trivial⟩)⟩
theorem ou.keep {w w':World} {A:Option Addr} {e:List (List Value)} {j:List TD} (h:ou w (fun _=>True) A e j) (a:aa [] w w'):ou w' (fun _=>True) A e j:=by
 have f:∀x,x<w.heap.size->True->x∉([]:List Nat)/\True:=fun _ _ _=>⟨by simp,trivial⟩
 refine⟨h.1.move a f,aJ.mono h.2 (fun W _ d _ k=>?_)⟩;obtain⟨T,l,m,Q,R,o,p,M,P,g,c,S,q,B,C,D,E,F,H,J,K,L⟩:=k.out_;exact⟨⟨T,l,m,Q,R,o,p,M,P,g,c,S,q,B,C,D,E.move a f,aJ.mono F (fun _ _ _ _ N=>N.keep a),H.move a f,J,K.move a f,fun i n O=>by
  obtain⟨x,y,z,r,s,t,u,v⟩:=L i n O;exact⟨x,y,z,r,s,t,u.keep a,v⟩⟩,k.b⟩
structure Inv (W0 w:World) (g bd bs x bl E:Nat) (B:Int) (s:Dk.St) (ts:List TS) (f:Nat->Int) (ep:Nat) (L:List UInt8) (rc:Nat) (A:Option Addr) (n c:Nat):Prop where
 db:cx (fun y=>g+1<=y) w x bd bs bl s ts f ep L rc
 lv:Lv E s ts f ep L
 mb:Blk w g 36 (stV A n c f (L.length:Int))
 ms:ts.length=n/\bY w [g,bd,bs,x,bl] A ts
 kp:aa [] W0 w
 lo:W0.heap.size<=g/\g<bd/\g<bs/\g<x/\g<bl
 wr:0<=s.writes/\s.writes<=B
structure Dn (W0 w:World) (g g2 bd bs E:Nat) (B:Int) (s:Dk.St) (ts:List TS) (f:Nat->Int) (u:Int) (A:Option Addr) (n c:Nat) (ts2:List TS) (f2:Nat->Int) (u2:Int) (A2:Option Addr) (n2 c2:Nat):Prop where
 d:Dk.aZ w bd bs s
 mb:Blk w g 36 (stV A n c f u)
 ms:ts.length=n/\bY w [g,bd,bs,g2] A ts
 nb:Blk w g2 36 (stV A2 n2 c2 f2 u2)
 ns:ts2.length=n2/\bY w [g,bd,bs,g2] A2 ts2
 kp:aa [] W0 w
 lo:W0.heap.size<=g/\g<bd/\g<bs/\g<g2/\g2≠bd/\g2≠bs
 wr:0<=s.writes/\s.writes<=B
 on:On E s ts f\/On E s ts2 f2
 gd:Gd 52 ts/\Gd 52 ts2/\ts2.map (·.cols)=ts.map (·.cols)
 alt:(ts2=ts/\f2=f)\/∃j,j<8/\f2 j≠f j
def AU (W0:World) (g o e h E:Nat) (B:Int) (q:Nat) (cols:List Nat) (F:Int) (t b:Value) (w:World):Prop:=
 (∃x l s ts f ep L a A n c,t=.pointer (V x)/\b=I 0/\a<=q/\Inv W0 w g e h x l E B s ts f ep L a A n c/\ts.map (·.cols)=cols/\∀j,j<8->f j<=F)\/
 (∃s ts f u A n c d i r k p m,b=I 15/\Dn W0 w g o e h E B s ts f u A n c d i r k p m/\ts.map (·.cols)=cols/\(∀j,j<8->f j<=F)/\∀j,j<8->i j<=F)
theorem cx.below {lo a:Nat->Prop} {w:World} {x b d c:Nat} {s:Dk.St} {ts:List TS} {f:Nat->Int} {ep:Nat} {L:List UInt8} {i:Nat} (h:cx lo w x b d c s ts f ep L i) (r:∀y,lo y->y<w.heap.size->a y):cx a w x b d c s ts f ep L i:=by
 obtain⟨⟨t,F,j,e,k,l,m,n,o⟩,p,q⟩:=h;exact⟨⟨t,F,j,e,k,l,m,n,fun y g=>r y (o y g) (e.lt y g)⟩,p,q⟩
theorem cx.marks {g c:Nat} {w w':World} {x e j i:Nat} {s:Dk.St} {ts:List TS} {f:Nat->Int} {ep:Nat} {L:List UInt8} {n:Nat} {a b:Array Value} (h:cx (fun y=>g+1<=y/\y≠c) w x e j i s ts f ep L n) (q:aa [g,c] w w') (p:Blk w g 36 a) (l:Blk w c 36 b)
 (d:(g≠x/\g≠e/\g≠j/\g≠i)/\c≠x/\c≠e/\c≠j/\c≠i):cx (fun y=>g+1<=y) w' x e j i s ts f ep L n:=
 (h.keep q (fun y k=>by simp at k;rcases k with rfl | rfl;exact⟨by omega,d.1⟩;exact⟨fun h=>h.2 rfl,d.2⟩) (fun r o m=>by simp;exact⟨m.ne_ p (by decide),m.ne_ l (by decide)⟩)).low (fun y k=>k.1)
structure Cx (W0 w:World) (g g2 gv bd bs x bl:Nat) (ts:List TS) (A:Option Addr) (n:Nat):Prop where
 ms:ts.length=n/\bY w [g,bd,bs,x,bl,g2] A ts
 kp:aa [] W0 w
 lo:W0.heap.size<=g/\g<bd/\g<bs/\g<x/\g<bl/\g<gv/\bd<gv/\bs<gv/\x<gv/\bl<gv/\gv<g2
 hi:g2<w.heap.size
theorem Cx.sts {W0 w w':World} {g d e a c x b:Nat} {ts:List TS} {A:Option Addr} {n:Nat} (h:Cx W0 w g d e a c x b ts A n) (i:aa [x,b,a,c,g,d] w w') {X:List Nat} (f:∀y∈X,y∈[g,a,c,x,b,d]\/w.heap.size<=y):bY w' X A ts:=
 h.ms.2.shift i (fun y j=>.inl (by simp at j ⊢;omega)) f
theorem Cx.kp' {W0 w w':World} {g d e a c x b:Nat} {ts:List TS} {A:Option Addr} {n:Nat} (h:Cx W0 w g d e a c x b ts A n) (f:aa [x,b,a,c,g,d] w w'):aa [] W0 w':=
 h.kp.more f (fun y i=>by have:=h.lo;simp at i;exact .inr (by omega))
theorem Cx.up {W0 w w':World} {g l z d e x k:Nat} {u:List TS} {v:Option Addr} {M:Nat} (h:Cx W0 w g l z d e x k u v M) (J:aa [x,k,d,e,g,l] w w') {b a E t i:Nat} {B F:Int} {s:Dk.St} {ts:List TS} {f:Nat->Int} {ep:Nat} {L:List UInt8} {A:Option Addr} {n c:Nat} {cols:List Nat}
 (m:cx (fun y=>g+1<=y) w' b d e a s ts f ep L t) (o:Lv E s ts f ep L) (p:Blk w' g 36 (stV A n c f (L.length:Int))) (q:ts.length=n/\bY w' [g,d,e,b,a] A ts) (P:b=x\/w.heap.size<=b) (C:a=k\/w.heap.size<=a) (K:0<=s.writes/\s.writes<=B) (r:t<=i) (D:ts.map (·.cols)=cols) (H:∀j,j<8->f j<=F):
 AU W0 g l d e E B i cols F (.pointer (V b)) (I 0) w':=by
  have N:=h.lo;have O:=h.hi;exact .inl ⟨b,a,s,ts,f,ep,L,t,A,n,c,rfl,rfl,r,⟨m,o,p,q,h.kp' J,by omega,K⟩,D,H⟩
theorem Cx.down {W0 w w':World} {g k L e i x D:Nat} {a:List TS} {m:Option Addr} {z:Nat} (h:Cx W0 w g k L e i x D a m z) (J:aa [x,D,e,i,g,k] w w') {R:Value} {E C:Nat} {B F:Int} {s:Dk.St} {f d:Nat->Int} {u K:Int} {b:List TS} {n:Option Addr} {c A H:Nat} {cols:List Nat}
 (M:Dk.aZ w' e i s) (q:Blk w' g 36 (stV m z c f u)) (r:Blk w' k 36 (stV n A H d K)) (t:b.length=A/\bY w' [g,e,i,k] n b) (P:0<=s.writes/\s.writes<=B) (v:On E s a f\/On E s b d) (p:Gd 52 a/\Gd 52 b/\b.map (·.cols)=a.map (·.cols))
 (l:(b=a/\d=f)\/∃j,j<8/\d j≠f j) (N:a.map (·.cols)=cols) (O:∀j,j<8->f j<=F) (o:∀j,j<8->d j<=F):AU W0 g k e i E B C cols F R (I 15) w':=by
  have S:=h.lo;refine .inr ⟨s,a,f,u,m,z,c,b,d,K,n,A,H,rfl,⟨M,q,⟨h.ms.1,h.sts J (fun y Q=>.inl (by simp at Q ⊢;omega))⟩,r,t,h.kp' J,by omega,P,v,p,l⟩,N,O,o⟩
theorem Sd.gd {E:Nat} {s:Dk.St} {ts:List TS} {f:Nat->Int} {ep:Nat} {cs:List Cm} (h:Sd E s ts f ep cs):Gd 52 ts/\f9 f:=by
 obtain⟨d,e,_,b,c,a⟩:=h.ex;exact⟨a.gd c,a.nums b⟩
theorem Lv.gd {E:Nat} {s:Dk.St} {ts:List TS} {f:Nat->Int} {ep:Nat} {L:List UInt8} (h:Lv E s ts f ep L):Gd 52 ts/\f9 f:=by
 obtain⟨_,_,_,cs,a,_⟩:=h;exact a.gd
theorem On.gd {E:Nat} {s:Dk.St} {ts:List TS} {f:Nat->Int} (h:On E s ts f):Gd 52 ts/\f9 f:=by
 obtain⟨ep,cs,a,_⟩:=h;exact a.gd
theorem g9 (f:Nat->Int):jz f f=true:=gZ.2 (fun _ _=>rfl)
theorem xw {f g:Nat->Int} (h:∃j,j<8/\f j≠g j):jz f g=false:=by
 obtain⟨j,a,b⟩:=h;cases c:jz f g with
 | false=>rfl
 | true=>exact absurd (gZ.1 c j a) b
end Go.Proofs.YtmlmfpikncogpaaGreat
